/- Lemmas for the law's walk. -/
import Derived.Test.YtjndhcngnghpiaaGreatDoorPn10
set_option maxRecDepth 100000
set_option maxHeartbeats 16000000
set_option linter.unusedSimpArgs false
namespace Go.Proofs.YtjndhcngnghpiaaGreatDoor
open Go.Proofs.Tryz
open Go.RowKit
variable {base c i b n:Nat} {w w':World} {v:Value} {xs:List ni} {s:aj} {ps:List jn}
abbrev K_:=aj×aj×Value
def AR(r:K_):aX:=[.string r.1,.string r.2.1,r.2.2]
theorem Vg{r:K_}(h:r.2.2.oneCell'=true):∀u∈AR r,u.oneCell'=true:=by
 intro u hu;simp only[AR,bB,cz,dU]at hu;rcases hu with rfl|rfl|rfl
 ·rfl
 ·rfl
 ·exact h
def Vh(base:Nat)(w:World)(r:K_)(x:ni):Prop:=r.1=bA x.scheme/\r.2.1=bA x.token/\OwnRows base 142 2 w r.2.2 (x.params.map od)
def lf(base:Nat)(w:World)(v:Value)(xs:List ni):Prop:=∃rs:List K_,OwnRows base 208 3 w v (rs.map AR)/\kT (Vh base w) rs xs
theorem lf.nil(base:Nat)(w:World):lf base w (.slice none 0 0) []:=⟨[],dx _ _ _ _,.nil⟩
theorem lf.form(h:lf base w v xs):∃a c,v=.slice a xs.length c:=by
 obtain⟨rs,h1,h2⟩:=h;obtain⟨a,c,e⟩:=h1.form;exact⟨a,c,by rw[e,ai,h2.len]⟩
def Ie(w:World)(S:dB):Prop:=∀k,S k->k<w.heap.size->∃cs t f,w.heap[k]?=some (.cells cs t f)/\t≠142/\t≠208
theorem Ie.none(w:World):Ie w aS:=fun _ h=>absurd h id
theorem Ie.cur(h:dw w c s i):Ie w (one c):=fun k hk _=>by
 obtain rfl:k=c:=hk;exact⟨_,_,_,h,ag,ag⟩
theorem lf.fr{S:dB}(h:lf base w v xs)(hf:Fr S w w')(hS:Ie w S):lf base w' v xs:=by
 obtain⟨rs,h1,h2⟩:=h;have key:∀ {k:Nat} {e:TypeId} {u:Value} {ys:cY},(e=142\/e=208)->OwnRows base e k w u ys->OwnRows base e k w' u ys:=by
  intro k e u ys he ho;refine ho.fr hf (fun b hb hs=>?_);obtain⟨cur,hc⟩:=ho.Bt hb;obtain⟨cs,t,f,XD,n1,n2⟩:=hS b hs (bj hc);rw[hc]at XD;cases XD;rcases he with rfl|rfl
  ·exact n1 rfl
  ·exact n2 rfl
 exact⟨rs,key (Or.inr rfl) h1,h2.mono (fun r x hr=>⟨hr.1,hr.2.1,key (Or.inl rfl) hr.2.2⟩)⟩
def ah5(c b:Nat)(v:Value):dB:=fun k=>k=c\/k=b\/v.ownBlock=some k
def sI(base c b i:Nat)(s:aj)(xs:List ni)(v:Value)(w:World)(e:Ending)(w':World):Prop :=
 Fr (ah5 c b v) w w'/\match o7 xs.length (s.data.toList.drop i)with
  | .error n=>∃p,xi n p e w'
  | .ok q=>e=.returned .nilIface/\∃j v',j<=s.size/\dw w' c s j/\s.data.toList.drop j=q.2/\iB w' b c s v'/\lf base w' v' (xs++[q.1])
theorem sI.bad{p:Nat}{e:Ending}(h:o7 xs.length (s.data.toList.drop i)=.error n)(hf:Fr (one c) w w')(he:xi n p e w'):sI base c b i s xs v w e w':=by
 refine⟨hf.mono (fun k _ e=>Or.inl e),?_⟩;rw[h];exact⟨p,he⟩
def adM(c b X i n:Nat)(s:aj)(v:Value)(W:Bs)(w wx:World):Prop :=
 ∃tok ps pv j,j<=s.size/\dw wx c s j/\iB wx b c s v/\kz wx X (bA W) (bA tok) pv/\OwnRows w.heap.size 142 2 wx pv (ps.map od)/\Fr (one c) w wx /\
  o7 n (s.data.toList.drop i)=.ok (⟨W,tok,ps⟩,s.data.toList.drop j)
def ah6(c b X K:Nat)(s:aj)(v:Value)(W:Bs)(w:World)(t:Value)(wr:World):Prop :=
 ∃mb ps pv j,t=.bool mb/\j<=s.size/\dw wr c s j/\iB wr b c s v/\kz wr X (bA W) ⟨#[]⟩ pv/\OwnRows w.heap.size 142 2 wr pv (ps.map od)/\Fr (one c) w wr/\ps.length<=16/\(∀p∈ps,p.1.length<100000) /\
  gQ ((s.data.toList.drop K).length+1) [] (s.data.toList.drop K)=(if mb then gQ ((s.data.toList.drop j).length+1) ps (s.data.toList.drop j)else .ok (ps,s.data.toList.drop j))
theorem Ig(ps:List jn)(r:Bs):gQ (r.length+1) ps r=match kR ps r with
  | .error e=>.error e
  | .ok q=>if nV q.2 then(if lB (iz q.2)then gQ ((iz q.2).length+1) (ps++[q.1]) (iz q.2)else .ok (ps++[q.1],iz q.2))else .error 3:=by
 rw[gQ];cases hp:kR ps r with
 |error e=>rfl
 |ok q =>
  obtain⟨p,r1⟩:=q;simp only;have h1:=tD hp;have h2:=oA r1;rw[ua r.length _ _ ab]
theorem Vi:(prog.info? 208).map (fun i=>(i.zero,i.size,i.bytes))=some (some (.agg #[.string ⟨#[]⟩,.string ⟨#[]⟩,.slice none 0 0]),3,56):=af
theorem OwnRows.Zn{k:Nat}{e:TypeId}{xs:cY}(h:OwnRows base e k w v xs):v.oneCell'=true:=by
 obtain⟨a,c,e⟩:=h.form;rw[e];rfl
theorem NH(s:aj)(k:Nat):decide (k<cM dK s.data.toList k)=pC (s.data.toList.drop k):=by
 rcases fF k s.data.toList.length with h|h
 ·rw[cR h];show _=dK s.data.toList[k];cases hb:dK s.data.toList[k]
  ·rw[lz (fun c hc=>by rw[List.getElem?_eq_getElem h]at hc;cases hc;exact hb)];simp
  ·rw[oy (List.getElem?_eq_getElem h) hb];have:=lA (p:=dK) (l:=s.data.toList) (i:=k+1);exact bL ab
 ·rw[cP h,lz (fun c hc=>by rw[List.getElem?_eq_none h]at hc;cases hc)];simp[pC]
theorem Vj(s:aj)(k:Nat):nV (s.data.toList.drop k)=nV (s.data.toList.drop (eJ s k)):=by rw[oF,GZ]
theorem Zo(s:aj)(k:Nat):eJ s (eJ s k)=eJ s k:=Fl _ _ _
theorem Zp(base b c i:Nat)(s:aj)(xs:List ni)(v:Value)(w:World)(hr:iB w b c s v)(h:dw w c s i)(hv:lf base w v xs)(hb:base<=w.heap.size)
  (hs:s.size<100000)(hi:i<=s.size)(hl:xs.length<=8) :
  aB 120 #[.pointer (some ⟨b,0,none⟩)] w (sI base c b i s xs v w):=by
 have hm:s.size<=maxLen:=ft;have hbc:=hr.ne h;have q0:=hr.cell0;have hw:=Hd hi;have HWD:=O (vE s i);have QH:=(show o7 xs.length (s.data.toList.drop i)=if(gX (s.data.toList.drop i)).isEmpty then .error 3
  else if xs.length=8 then .error 4
  else if nV (ir (s.data.toList.drop i))then .ok (⟨gX (s.data.toList.drop i),[],[]⟩,eW (ir (s.data.toList.drop i)))
  else if !pC (ir (s.data.toList.drop i))then .error 3
  else match singleR (eW (ir (s.data.toList.drop i)))with
   |some q=>.ok (⟨gX (s.data.toList.drop i),q.1,[]⟩,q.2)
   |none=>match gQ ((eW (ir (s.data.toList.drop i))).length+1) [] (eW (ir (s.data.toList.drop i)))with
    | .error e=>.error e
    | .ok q=>.ok (⟨gX (s.data.toList.drop i),[],q.1⟩,q.2)from rfl)
 rw[<-vE]at QH;have Ew:(gX (s.data.toList.drop i)).length<=s.size:=by
  have:=qY (s.data.toList.drop i);simp at this;omega
 have Jc:=O QH;clear QH;go_enter func120,ntmps120;go_wp2_with fail
 refine(Aq c s i w h).mono ?_;rintro e w0⟨rfl,rfl⟩;go_wp2_with fail
 refine(vo c s i w h hm hi).mono ?_;rintro e w1⟨rfl,pk,dn⟩;replace pk:dw w1 c s (I' s i):=pk;rw[show s.extract i (cM fV s.data.toList i)=bA (gX (s.data.toList.drop i))from y_ s i];generalize gX (s.data.toList.drop i)=W at *
 generalize I' s i=K1 at *
 obtain⟨wx,ND⟩:∃wx,wx=w1.alloc (.cells #[.string (bA W),.string ⟨#[]⟩,.slice none 0 0] 208):=⟨_,rfl⟩;have dz:Fr aS w1 wx:=by rw[ND];exact(ae _ _).alloc _
 have hX:kz wx w1.heap.size (bA W) ⟨#[]⟩ (.slice none 0 0):=by rw[ND];exact aC _ _
 have hXw:w.heap.size<=w1.heap.size:=dn.size;have yz:=hr.one h dn;have ob:=yz.fr dz id;have se:=pk.fr dz id;have fY:=O (dn.trans dz.mX);have Tf:=O ND;have HXS:=O (show wx.heap.size=w1.heap.size+1 by rw[ND];simp);have q1a:∀o:Obj,(w1.alloc o).cell? ⟨b,0,none⟩=some (.pointer (some ⟨c,0,none⟩)):=fun o=>(yz.fr ((ae aS w1).alloc o) id).cell0
 have q1b:∀o:Obj,(w1.alloc o).cell? ⟨b,2,none⟩=some v:=fun o=>(yz.fr ((ae aS w1).alloc o) id).lO;obtain⟨av,cv,hvv⟩:=hv.form;rw[hvv]at q1b;generalize hXe:w1.heap.size=X at *
 clear ND q0 dn;cases Pq:W.isEmpty
 case true =>
  have Hi:(bA W).toList=[]:=by rw[mM];exact gA.1 Pq
  have Ai:((bA W).toList== [])=true:=dT.2 Hi;have HE:=O (show o7 xs.length (s.data.toList.drop i)=.error 3 by rw[Jc.o,aA Pq]);go_wp2_with fail
  rw[<-Tf.o];refine(tF b c K1 3 s v wx ob se).mono ?_;rintro e w4⟨⟨g,rfl,hg⟩,kD⟩;go_wp2;go_ret;exact sI.bad HE.o (fY.o.trans kD.mX) ⟨g,rfl,hg⟩
 case false =>
  have Hi:¬(bA W).toList=[]:=by rw[mM];intro e;rw[e]at Pq;cases Pq
  have Ai:((bA W).toList== [])=false:=aL.2 Hi;by_cases h8:xs.length=8
  ·have h8':((xs.length:Int)==8)=true:=by rw[h8];rfl
   have HE:=O (show o7 xs.length (s.data.toList.drop i)=.error 4 by rw[Jc.o,ar (by rw[Pq];simp),aA h8]);clear h8;go_wp2;go_ret;rw[<-Tf.o];exact sI.bad HE.o (fY.o.alloc _) ⟨X+1,rfl,by rw[<-HXS.o];exact aC wx _⟩
  ·have h8':((xs.length:Int)==8)=false:=aL.2 ab;have Rp:=O (show o7 xs.length (s.data.toList.drop i)=if nV (s.data.toList.drop K1)then .ok (⟨W,[],[]⟩,eW (s.data.toList.drop K1))
    else if !pC (s.data.toList.drop K1)then .error 3
    else match singleR (eW (s.data.toList.drop K1))with
     |some q=>.ok (⟨W,q.1,[]⟩,q.2)
     |none=>match gQ ((eW (s.data.toList.drop K1)).length+1) [] (eW (s.data.toList.drop K1))with
      | .error e=>.error e
      | .ok q=>.ok (⟨W,[],q.1⟩,q.2)by rw[Jc.o,ar (by rw[Pq];simp),ar h8])
   clear Jc Pq;go_wp2_with fail
   rw[<-Tf.o];refine(mo c s K1 wx se hm hw).mono ?_;rintro e w3⟨rfl,tZ,il⟩;replace tZ:dw w3 c s (eJ s K1):=tZ;have HBH:=O (show decide (K1<cM dK s.data.toList K1)=pC (s.data.toList.drop K1)from NH s K1);rw[HBH.o];have rS:=xQ hw;have Ck:=O (oF s K1);rw[<-oF,Vj]at Rp;have pR:=O (Zo s K1);generalize eJ s K1=K2 at *
   have rq:=ob.one se il;have DX:=hX.fr il (fun e=>hX.ne se e);have iq:=O (fY.o.trans il);clear yz ob pk se hX dz il q1a q1b Hi Ai h8' HBH Ck
   go_upto_block 0 with fail
   go_cut [5,6,7,8]from 39 to 69 (fun _ _ _ _ wz=>adM c b X i xs.length s v W w wz)
   case first =>
    have hXX:=DX.ne tZ;have hXb:=DX.neR rq;go_wp2_with fail
    refine(C0 b c K2 s v w3 rq tZ hm rS).mono ?_;rintro e w4⟨rfl,tW,kD⟩;rw[pR.o]at tW;have vn:=rq.one tZ kD;have Zq:=DX.fr kD hXX;have jO:=O (iq.o.trans kD);clear rq DX tZ kD;cases hov:nV (s.data.toList.drop K2)
    case true =>
     have HE:=O (show o7 xs.length (s.data.toList.drop i)=.ok (⟨W,[],[]⟩,s.data.toList.drop K2)by rw[Rp.o,aA hov]);go_wp2_with fail
     go_meet
     exact⟨[],[],_,K2,rS,tW,vn,Zq,dx _ _ _ _,jO.o,HE.o⟩
    case false =>
     cases hbh:pC (s.data.toList.drop K1)
     case false =>
      have HE:=O (show o7 xs.length (s.data.toList.drop i)=.error 3 by rw[Rp.o,ar (by rw[hov];simp),aA (by rw[hbh];rfl)]);go_wp2_with fail
      refine(tF b c K2 3 s v w4 vn tW).mono ?_;rintro e w5⟨⟨g,rfl,hg⟩,lL⟩;go_wp2;go_ret;exact sI.bad HE.o (jO.o.trans lL.mX) ⟨g,rfl,hg⟩
     case true =>
      have adO:=O (show o7 xs.length (s.data.toList.drop i)=match singleR (s.data.toList.drop K2)with
       |some q=>.ok (⟨W,q.1,[]⟩,q.2)
       |none=>match gQ ((s.data.toList.drop K2).length+1) [] (s.data.toList.drop K2)with
        | .error e=>.error e
        | .ok q=>.ok (⟨W,[],q.1⟩,q.2)by rw[Rp.o,ar (by rw[hov];simp),ar (by rw[hbh];simp)])
      clear Rp;go_wp2_with fail
      refine(MX b c K2 s v w4 vn tW hs rS).mono ?_;intro e w5 ql;obtain⟨lL,oZ⟩:=ql;have Bu:=vn.one tW lL;have hX5:=Zq.fr lL hXX;have xe:=O (jO.o.trans lL);have x1:=hX5.gW;have xf1:=hX5.free 1;have HS:=O (show∀u:Value,Fr (one X) w5 (w5.setCell ⟨X,1,none⟩ u)from fun u=>(ae (one X) w5).setCell (p:=⟨X,1,none⟩) (fun _=>rfl) u)
      have yy:=O (show∀u:Value,Fr (one c) w (w5.setCell ⟨X,1,none⟩ u)from fun u=>xe.o.step (HS.o u) (fun k hk e=>by have e':k=X:=e;omega));clear lL;cases hsr:singleR (s.data.toList.drop K2)with
      |some q =>
       obtain⟨tk,z⟩:=q;rw[hsr]at oZ;obtain⟨rfl,j,hj,tX,hd5⟩:=oZ;have HE:=O (show o7 xs.length (s.data.toList.drop i)=.ok (⟨W,tk,[]⟩,s.data.toList.drop j)by rw[adO.o,hsr,hd5]);have hX6:kz (w5.setCell ⟨X,1,none⟩ (.string (bA tk))) X (bA W) (bA tk) (.slice none 0 0):=b_ hX5 1 _;have Ja:=Bu.fr (HS.o (.string (bA tk))) (fun e=>hXb (show b=X from e).symm)
       have Mr:=tX.fr (HS.o (.string (bA tk))) (fun e=>hXX (show c=X from e).symm);clear hd5;go_wp2_with fail
       go_meet
       exact⟨tk,[],_,j,hj,Mr,Ja,hX6,dx _ _ _ _,yy.o _,HE.o⟩
      |none =>
       rw[hsr]at oZ;obtain⟨rfl,tX⟩:=oZ;have HPN:=O (show o7 xs.length (s.data.toList.drop i)=match gQ ((s.data.toList.drop K2).length+1) [] (s.data.toList.drop K2)with
        | .error e=>.error e
        | .ok q=>.ok (⟨W,[],q.1⟩,q.2)by rw[adO.o,hsr])
       have hX6:kz (w5.setCell ⟨X,1,none⟩ (.string ⟨#[]⟩)) X (bA W) ⟨#[]⟩ (.slice none 0 0):=b_ hX5 1 _;have Ja:=Bu.fr (HS.o (.string ⟨#[]⟩)) (fun e=>hXb (show b=X from e).symm);have Mr:=tX.fr (HS.o (.string ⟨#[]⟩)) (fun e=>hXX (show c=X from e).symm);have Jb:=O (yy.o (.string ⟨#[]⟩));clear adO;go_wp2_with fail
       clear x1 xf1;generalize w5.setCell ⟨X,1,none⟩ (.string ⟨#[]⟩)=w7 at *
       go_loopw[7] (ah6 c b X K2 s v W w) (fun t wr=>match t with| .bool true=>s.size-pq wr c+1|_=>0)
       case atStart=>exact⟨true,[],_,K2,rfl,rS,Mr,Ja,hX6,dx _ _ _ _,Jb.o,aR,aR,rfl⟩
       case round =>
        obtain⟨mb,ps,pv,j,rfl,hj,hc8,T9,hX8,SU,cL,anV,hpz,hpn⟩:=hrel;have Zr:=O hpn;clear hpn;cases mb
        case false =>
         have HE:=O (show o7 xs.length (s.data.toList.drop i)=.ok (⟨W,[],ps⟩,s.data.toList.drop j)by rw[HPN.o,Zr.o];rfl);go_wp2_with fail
         go_meet
         exact⟨[],ps,pv,j,hj,hc8,T9,hX8,SU,cL,HE.o⟩
        case true =>
         have l_:=O (Ig ps (s.data.toList.drop j));have pU:=O hc8.pos;have hwr:w.heap.size<=wr.heap.size:=cL.size;go_wp2_with fail
         refine(QG w.heap.size b c X j s v ps (bA W) ⟨#[]⟩ pv wr T9 hc8 hX8 SU hwr hs hj anV hpz).mono ?_;intro e w9 hpp;obtain⟨SZ,hpm⟩:=hpp;have hXc:=hX8.ne hc8;have XE:=hX8.neR T9;have hbo:pv.ownBlock≠some b:=SU.not T9 ag;have hr9:=T9.fr SZ (fun hh=>by
          rcases hh with hh|hh|hh
          ·exact hbc hh
          ·exact XE hh.symm
          ·exact hbo hh)
         have Xo:=O (show Fr (one c) w w9 from cL.step SZ (fun k hk hh=>by
          rcases hh with hh|hh|hh
          ·exact hh
          ·omega
          ·have:=SU.block k hh;omega))
         clear SZ cL SU hX8 T9;cases yB:kR ps (s.data.toList.drop j)with
         |error n =>
          rw[yB]at hpm;obtain⟨pl,g,rfl,hg⟩:=hpm;have HE:=O (show o7 xs.length (s.data.toList.drop i)=.error n by
           rw[HPN.o,Zr.o,aA True.intro,l_.o,yB])
          clear yB;go_wp2_with fail
          go_ret;exact sI.bad HE.o Xo.o ⟨g,rfl,hg⟩
         |ok q =>
          obtain⟨p,z⟩:=q;rw[yB]at hpm;obtain⟨rfl,j1,yA,hj1,hc9,hd9,hX9,YC⟩:=hpm;simp only at hd9 YC;have hle:=tD yB;rw[yB]at l_;have aq':=(FB yB).2.2;have B7:(s.data.toList.drop j).length<=s.size:=aR;have hjj:j<j1:=by
           have e1:z.length=s.size-j1:=by rw[<-hd9];simp
           have e2:(s.data.toList.drop j).length=s.size-j:=aR;omega
          have Yf:=O (show p.1.length<100000 from ab);clear yB hle B7;go_wp2_with fail
          refine(C0 b c j1 s v w9 hr9 hc9 hm hj1).mono ?_;rintro e w10⟨rfl,Vk,MZ⟩;have Zs:=hr9.one hc9 MZ;have ah8:=hX9.fr MZ hXc;have adQ:=YC.fr MZ (fun k hk e=>by
           obtain rfl:k=c:=e;exact YC.not hc9 ag hk)
          have ah9:=O (Xo.o.trans MZ);have hbj:=xQ (s:=s) hj1;have hbd:=O (oF s j1);rw[hd9]at hbd ⊢;clear MZ hr9 hX9 YC hc9;cases hov:nV z
          case false =>
           have HE:=O (show o7 xs.length (s.data.toList.drop i)=.error 3 by
            rw[HPN.o,Zr.o,aA True.intro,l_.o];simp only[hov,cJ,eV])
           go_wp2_with fail
           refine(tF b c _ 3 s v w10 Zs Vk).mono ?_;rintro e w11⟨⟨g,rfl,hg⟩,NI⟩;go_wp2;go_ret;exact sI.bad HE.o (ah9.o.trans NI.mX) ⟨g,rfl,hg⟩
          case true =>
           go_wp2_with fail
           refine(CZ b c _ s v w10 Zs Vk hm hbj).mono ?_;rintro e w11⟨rfl,Zt,NI⟩;have HGD:=O (show s.data.toList.drop (cM oa s.data.toList (eJ s j1))=iz z by
            rw[jV,hbd.o];exact ub z)
           have Nn:cM oa s.data.toList (eJ s j1)<=s.size:=by simpa using gZ (p:=oa) (l:=s.data.toList) (i:=eJ s j1) (by simpa using hbj)
           have Xs:j1<=cM oa s.data.toList (eJ s j1):=aF (lA (p:=dK) (l:=s.data.toList) (i:=j1)) lA;generalize cM oa s.data.toList (eJ s j1)=j2 at *
           have adS:=Zs.one Vk NI;have ah_:=ah8.fr NI hXc;have adT:=adQ.fr NI (fun k hk e=>by
            obtain rfl:k=c:=e;exact adQ.not Vk ag hk)
           have anX:=O (ah9.o.trans NI);clear NI Zs ah8 adQ Vk;go_wp2_with fail
           refine(MW b c j2 s v w11 adS Zt hm Nn).mono ?_;rintro e w12⟨rfl,adU,yW⟩;rw[HGD.o];have aia:=adS.one Zt yW;have aib:=ah_.fr yW hXc;have aic:=adT.fr yW (fun k hk e=>by
            obtain rfl:k=c:=e;exact adT.not Zt ag hk)
           have aid:=O (anX.o.trans yW);have Mt:=O (show gQ ((s.data.toList.drop K2).length+1) [] (s.data.toList.drop K2)=(if lB (iz z)then gQ ((s.data.toList.drop j2).length+1) (ps++[p]) (s.data.toList.drop j2)else .ok (ps++[p],s.data.toList.drop j2))by
            rw[Zr.o,aA True.intro,l_.o];simp only[hov,eb];rw[HGD.o])
           have aie:(ps++[p]).length<=16:=bH;have aif:∀q∈ps++[p],q.1.length<100000:=by
            intro q hq;rcases bQ.1 hq with g|g
            ·exact hpz q g
            ·simp at g;subst g;exact Yf.o
           clear yW adS ah_ adT Zt hov hd9;cases Xw:lB (iz z)
           ·rw[Xw]at Mt;go_wp2;go_roundw
            case rel=>exact⟨false,ps++[p],yA,j2,rfl,Nn,adU,aia,aib,aic,aid.o,aie,aif,Mt.o⟩
            case measure=>simp
           ·rw[Xw]at Mt;go_wp2;go_roundw
            case rel=>exact⟨true,ps++[p],yA,j2,rfl,Nn,adU,aia,aib,aic,aid.o,aie,aif,Mt.o⟩
            case measure=>simp only;rw[pU.o,adU.pos];omega
   case rest =>
   obtain⟨tok,ps,pv,j,hj,tW,vn,Zq,SQ,kD,hE⟩:=hcut;have HE:=O hE;clear hE Rp tZ rq DX;have hXc:=Zq.ne tW;have hXb:=Zq.neR vn;have O5:=hv.fr kD (Ie.cur h);obtain⟨rs,ho,xm⟩:=O5;have uT:=xm.len;subst hvv;have Hh:(Value.slice av xs.length cv).ownBlock≠some c:=ho.not tW ag;have hob:(Value.slice av xs.length cv).ownBlock≠some b:=ho.not vn ag;have hpc:pv.ownBlock≠some c:=SQ.not tW ag
   have Xx:pv.ownBlock≠some b:=SQ.not vn ag;have cQ:wc.ownsRow base 208 3 (.slice av xs.length cv) xs.length (rs.map AR).flatten:=by
    have hh:=ho.2;rw[ai,uT]at hh;exact hh
   have xh:c<wc.heap.size:=tW.lt;have hbl:b<wc.heap.size:=vn.lt;have hXl:X<wc.heap.size:=Zq.lt;have ix:base<=wc.heap.size:=aF hb kD.size;have r2:=vn.lO;have rf2:=vn.free 2;have x0:=Zq.cell0;have x1:=Zq.gW;have x2:=Zq.lO;have hpo:pv.oneCell'=true:=SQ.Zn;obtain⟨i0,qp,o9,kQ,ld⟩:=info_parts Vi;have wU:=O (Vg (r:=(bA W,bA tok,pv)) hpo);have HO:=O ho;have HB:=O xm;have HP4:=O SQ;have h8l:xs.length<8:=ab
   clear hv ho xm SQ;go_wp2_with fail
   go_region_law ((with_reducible refine mL ⟨some 77,_,_,_,_,_⟩ ?_)
                  refine step_append_lies _ bC _ _ _ bC base 208 i0 _ 3 56 underlying154 qp o9 kQ ld rfl ab (.slice av xs.length cv) xs.length _ bC (by repeat(first|exact cQ|apply World.ownsRow.alloc|apply World.ownsRow.drew)) ⟨wc.heap.size,0,none⟩ 1 1 (AR (bA W,bA tok,pv)) bC bC (kF wc (AR (bA W,bA tok,pv)) _) wU.o ab ft ab bH (wc.heap.size+1) aR ?_
                  intro gg cap w5 vG js Ua acU
                  have qR:Fr (fun k=>(Value.slice av xs.length cv).ownBlock=some k) wc w5:=fl (by repeat(first|exact ae _ _|apply az|apply bz)) js (fun _ hk _=>hk)
                  have k4:w5.cell? ⟨b,2,none⟩=some (.slice av xs.length cv):=(qR.cell (p:=⟨b,2,none⟩) hbl hob).trans r2
                  have e4:w5.frozen? ⟨b,2,none⟩=false:=(qR.frozen (p:=⟨b,2,none⟩) hbl hob).trans rf2)
   all_goals
    have Bu:iB w5 b c s (.slice av xs.length cv):=vn.fr qR hob;have tX:dw w5 c s j:=tW.fr qR Hh;have kf:Fr (one b) w5 (w5.setCell ⟨b,2,none⟩ (.slice (some ⟨gg,0,none⟩) (xs.length+1) cap)):=(ae (one b) w5).setCell (p:=⟨b,2,none⟩) (fun _=>rfl) _;have Ja:iB (w5.setCell ⟨b,2,none⟩ (.slice (some ⟨gg,0,none⟩) (xs.length+1) cap)) b c s (.slice (some ⟨gg,0,none⟩) (xs.length+1) cap):=b_ Bu 2 _
    have Mr:=tX.fr kf (fun e=>hbc (show c=b from e).symm);have hgb:gg≠b:=by
     rintro rfl;rcases Ua with e|e
     ·exact hob e
     ·omega
    have Zu:∀(u:Value) (qs:List jn),OwnRows base 142 2 wc u (qs.map od)->OwnRows base 142 2 (w5.setCell ⟨b,2,none⟩ (.slice (some ⟨gg,0,none⟩) (xs.length+1) cap)) u (qs.map od):=by
     intro u qs hu;have h1:OwnRows base 142 2 w5 u (qs.map od):=hu.fr qR (fun k hk rS=>by
      obtain⟨cur,hcu⟩:=hu.Bt hk;obtain⟨auL,aih⟩:=HO.o.Bt rS;rw[hcu]at aih;simp at aih)
     exact h1.fr kf (fun k hk e=>by
      obtain rfl:k=b:=e;exact h1.not Bu ag hk)
    have Mq:OwnRows base 208 3 w5 (.slice (some ⟨gg,0,none⟩) (xs.length+1) cap) ((rs++[(bA W,bA tok,pv)]).map AR):=by
     refine⟨?_,?_⟩
     ·intro y hy;rw[bG]at hy;rcases bQ.1 hy with g|g
      ·exact HO.o.1 y g
      ·simp at g;subst g;exact⟨rfl,wU.o⟩
     ·have e1:((rs++[(bA W,bA tok,pv)]).map AR).length=xs.length+1:=by simp[uT]
      have e2:((rs++[(bA W,bA tok,pv)]).map AR).flatten=(rs.map AR).flatten++AR (bA W,bA tok,pv):=aR;rw[e1,e2];exact vG
    have zc:=Mq.fr kf (fun k hk e=>hgb (by
     simp only[Value.ownBlock,eo]at hk;rw[hk];exact e))
    have hcs:lf base (w5.setCell ⟨b,2,none⟩ (.slice (some ⟨gg,0,none⟩) (xs.length+1) cap)) (.slice (some ⟨gg,0,none⟩) (xs.length+1) cap) (xs++[⟨W,tok,ps⟩]) :=
     ⟨_,zc,(HB.o.mono (fun r x hr=>⟨hr.1,hr.2.1,Zu _ _ hr.2.2⟩)).app (.cons ⟨rfl,rfl,Zu _ _ (HP4.o.up hb)⟩ .nil)⟩
    have Ub:=O (show Fr (ah5 c b (.slice av xs.length cv)) w (w5.setCell ⟨b,2,none⟩ (.slice (some ⟨gg,0,none⟩) (xs.length+1) cap))from
     ((kD.mono (fun k _ e=>Or.inl e)).trans (qR.mono (fun k _ e=>Or.inr (Or.inr e)))).trans (kf.mono (fun k _ e=>Or.inr (Or.inl e))))
    clear k4 e4 js vG cQ qR Zu;go_wp2;go_ret;refine⟨Ub.o,?_⟩;rw[HE.o];exact⟨rfl,j,_,hj,Mr,rfl,Ja,hcs⟩
def rM(part:Int)(method:aj)(hs:List gY):Bool:=decide (0<=part)&&(decide (part<4)&&(Ar method.data.toList&&(decide (hs.length<=40)&&hs.all fun p=>Ar p.1.data.toList)))
def aim(hs:List gY)(w1:World)(i:Value)(wr:World):Prop :=
 ∃k:Nat,k<=hs.length/\i=.int .i64 k/\(hs.take k).all (fun p=>Ar p.1.data.toList)=true/\Fr aS w1 wr
theorem NM(r:gl Value)(hs:List gY)(w:World)(hr:oD w r.en hs)(hz:Gc r hs) :
  aB 64 #[.agg r.cells.toArray] w fun e w'=>e=.returned (.bool (rM r.part r.method hs))/\Fr aS w w':=by
 have gG:=O (show rM r.part r.method hs=(decide (0<=r.part)&&(decide (r.part<4)&&(Ar r.method.data.toList&&(decide (hs.length<=40)&&hs.all fun p=>Ar p.1.data.toList))))from rfl);generalize rM r.part r.method hs=res at gG ⊢;obtain⟨wb,jQ⟩:∃wb,wb=w.alloc (.cells r.cells.toArray 29):=⟨_,rfl⟩;have kf:Fr aS w wb:=by rw[jQ];exact(ae aS w).alloc _
 have lW:wb.heap[w.heap.size]?=some (.cells r.cells.toArray 29 (0,0)):=by rw[jQ];exact aC _ _
 obtain⟨ah,ch,gD⟩:=dI hr;rw[ai]at gD;have ux:r.cells=[.int .i64 r.part,.bool r.cW.aE,.string r.cW.host,.int .i64 r.cW.port,.bool r.o.aE,.string r.o.host,.int .i64 r.o.port,.string r.path,.string r.query,.string r.method,.slice ah hs.length ch,.bool r.fN,.string r.body]:=by unfold gl.cells;rw[gD]
 have c0:wb.cell? ⟨w.heap.size,0,none⟩=some (.int .i64 r.part):=by simp only[World.cell?,lW];rw[ux];rfl
 have c9:wb.cell? ⟨w.heap.size,9,none⟩=some (.string r.method):=by simp only[World.cell?,lW];rw[ux];rfl
 have Gd:wb.cell? ⟨w.heap.size,10,none⟩=some (.slice ah hs.length ch):=by simp only[World.cell?,lW];rw[ux];rfl
 have hh:=bh hr kf;rw[gD]at hh;obtain⟨kQ,ld,T5⟩:=hz;have hlen:(hs.length:Int)<100000:=ab;have IS:=O (show∀U,aB 96 #[.string r.method] U fun e w'=>e=.returned (.bool (Ar r.method.data.toList))/\U=w' from fun U=>CB r.method U ab);have HH:=O hh;have HZ:=O T5;have mh:=O kf;rw[ux]at jQ ⊢;have qL:=O jQ;rw[jQ]at c0 c9 Gd;clear hr kf lW gD ux hh T5 jQ;by_cases h0:r.part<0
 ·have HR:=O (show res=false by rw[gG.o,bD ab];rfl);clear gG;go_enter func64,ntmps64;go_wp2;go_ret;exact⟨by rw[HR.o];rfl,by rw[<-qL.o];exact mh.o⟩
 by_cases h4:r.part>=4
 ·have HR:=O (show res=false by rw[gG.o,bD (show¬r.part<4 from ab),kn,Bool.and_false]);clear gG;go_enter func64,ntmps64;go_wp2;go_ret;exact⟨by rw[HR.o];rfl,by rw[<-qL.o];exact mh.o⟩
 have Gj:=O (show res=(Ar r.method.data.toList&&(decide (hs.length<=40)&&hs.all fun p=>Ar p.1.data.toList))by rw[gG.o,bL (show 0<=r.part from ab),bL (show r.part<4 from ab)];rfl);clear gG;go_enter func64,ntmps64;go_wp2_with fail
 refine(IS.o _).mono ?_;rintro e w2⟨rfl,rfl⟩;cases him:Ar r.method.data.toList
 ·have HR:=O (show res=false by rw[Gj.o,him];rfl);clear Gj;go_wp2;go_ret;exact⟨by rw[HR.o];rfl,by rw[<-qL.o];exact mh.o⟩
 by_cases GW:(hs.length:Int)>40
 ·have HR:=O (show res=false by rw[Gj.o,him,bD (show¬hs.length<=40 from ab)];rfl);clear Gj;go_wp2;go_ret;exact⟨by rw[HR.o];rfl,by rw[<-qL.o];exact mh.o⟩
 have NC:=O (show res=hs.all (fun p=>Ar p.1.data.toList)by rw[Gj.o,him,bL (show hs.length<=40 from ab)];rfl);clear Gj him kQ ld h0 h4 hlen;go_wp2;rw[<-qL.o];go_loopw[28] (aim hs wb) (fun i _=>hs.length-(intOf i).toNat)
 case atStart=>exact⟨0,aQ _,rfl,rfl,ae _ _⟩
 case round =>
  obtain⟨k,hk,rfl,iL,cL⟩:=hrel;have Ax:=O iL;clear iL;by_cases fk:k<hs.length
  ·have o_:(k:Int)<(hs.length:Int):=ab;rcases(bh HH.o cL).2 with ⟨_,_,_,e,_⟩|⟨bk,o,c,hf,h1,h2,h3,h4c⟩
   ·have e2:=aq List.length e;rw[ai]at e2;have e3:hs.length=0:=e2;omega
   ·rw[ai]at hf h1;cases hf;unfold maxLen at h2;have dP:=O (List.getElem?_eq_getElem fk);have hc:=h4c k _ (by rw[List.getElem?_map,dP.o];rfl);have hd0:=hc 0 _ rfl;have yJ:=hc 1 _ rfl;simp only[Nat.add_zero]at hd0;have T5:(hs[k]).1.size<100000:=(HZ.o _ (bM fk)).1;generalize hs[k]=x at dP hd0 yJ T5
    have IS2:=O (show∀U,aB 96 #[.string x.1] U fun e w'=>e=.returned (.bool (Ar x.1.data.toList))/\U=w' from fun U=>CB x.1 U ab);have Cp:=O (cL.alloc (.cells #[.string x.1,.string x.2] 142));clear h4c hc;go_wp2_with fail
    refine(IS2.o _).mono ?_;rintro e w3⟨rfl,rfl⟩;cases hx:Ar x.1.data.toList
    ·have HR:=O (show res=false by rw[NC.o];exact yg dP.o hx);clear hx;go_wp2;go_ret;exact⟨by rw[HR.o];rfl,mh.o.trans Cp.o⟩
    ·have hn:=O (uw dP.o Ax.o hx);clear hx;go_wp2;go_roundw
     case rel=>exact⟨k+1,ab,bg,hn.o,Cp.o⟩
     case measure=>simp[intOf];omega
  ·have o_:¬(k:Int)<(hs.length:Int):=ab;have HR:=O (show res=true by rw[NC.o];have h:=Ax.o;rwa [aD ab]at h);go_wp2;go_ret;exact⟨by rw[HR.o];rfl,mh.o.trans cL⟩
theorem RC(p q:ef)(w:World):(binOp .eql 137 (.agg p.cells.toArray) (.agg q.cells.toArray)).run prog w=.ok (.bool (p.kV q)) w:=by
 obtain⟨⟨a,b,c⟩,⟨d,e,f⟩,g,i,j,k,l,m⟩:=p;obtain⟨⟨a',b',c'⟩,⟨d',e',f'⟩,g',i',j',k',l',m'⟩:=q;unfold ef.cells;go_simp;simp only[show∀(P:Prop) [Decidable P] (W:World) (b:Bool),(if P then(Result.ok (Value.bool b) W:Result Value)else .ok (.bool false) W)=.ok (.bool (decide P&&b)) W from fun P _ W b=>by by_cases h:P<;>simp[h]]
 congr 2
 rw[fb];simp only[ef.kV,gq.kV,cF,dF,dT,and_assoc,iE]
def uB(w:World)(b o:Nat)(p:ef):Prop :=
 w.cell? ⟨b,o,none⟩=some (.bool p.cW.aE)/\w.cell? ⟨b,o+1,none⟩=some (.string p.cW.host)/\w.cell? ⟨b,o+2,none⟩=some (.int .i64 p.cW.port)/\w.cell? ⟨b,o+3,none⟩=some (.bool p.o.aE)/\w.cell? ⟨b,o+4,none⟩=some (.string p.o.host)/\w.cell? ⟨b,o+5,none⟩=some (.int .i64 p.o.port)/\w.cell? ⟨b,o+6,none⟩=some (.string p.path)/\w.cell? ⟨b,o+7,none⟩=some (.string p.query)/\w.cell? ⟨b,o+8,none⟩=some (.bool p.fN)/\w.cell? ⟨b,o+9,none⟩=some (.string p.method)/\w.cell? ⟨b,o+10,none⟩=some (.string p.head)/\w.cell? ⟨b,o+11,none⟩=some (.int .i64 p.pL)
theorem uB.of{o:Nat}{p:ef}(h:∀(i:Nat) u,p.cells[i]?=some u->w.cell? ⟨b,o+i,none⟩=some u):uB w b o p :=
 ⟨h 0 _ rfl,h 1 _ rfl,h 2 _ rfl,h 3 _ rfl,h 4 _ rfl,h 5 _ rfl,h 6 _ rfl,h 7 _ rfl,h 8 _ rfl,h 9 _ rfl,h 10 _ rfl,h 11 _ rfl⟩
theorem uB.eJ{p:ef}(h:w.heap[b]?=some (.cells p.cells.toArray 137 (0,0))):uB w b 0 p :=
 uB.of fun i u hu=>by simp only[World.cell?,h];simpa using hu
theorem qF.lie{a:eQ}{ps:List ef}(h:qF w (.slice a n c) ps)(hne:ps≠ []) :
  ∃bk of,a=some ⟨bk,of,none⟩/\n=ps.length/\n<=c/\n<=maxLen/\bk<w.heap.size/\∀(j:Nat) q,ps[j]?=some q->uB w bk (of+j*12) q:=by
 rcases h.2 with ⟨_,_,_,e,_⟩|⟨bk,of,c',hf,g1,g2,g3,g4⟩
 ·exact absurd (by simpa using e) hne
 ·cases hf;rw[ai]at g1;exact⟨bk,of,rfl,aR,by simpa using g1,by rw[ai];have h1:ps.length<=c:=g1;exact aF h1 g2,g3,fun j q hq=>uB.of (g4 j q.cells (by rw[List.getElem?_map,hq];rfl))⟩
def air(w:World)(n:Nat)(f:Nat->Bool)(i:Value)(wr:World):Prop:=∃k:Nat,k<=n/\i=.int .i64 k/\f k=true/\Fr aS w wr
theorem Vx(v:Value)(ps:List ef)(p:ef)(w:World)(h:qF w v ps) :
  aB 198 #[v,.agg p.cells.toArray] w fun e w'=>e=.returned (.int .i64 (lQ (fun q=>p.kV q) ps 0))/\Fr aS w w':=by
 obtain⟨av,cv,hv⟩:=dI h;subst hv;rw[ai]at h ⊢;have HQ:=O (RC p);obtain⟨w1,oq⟩:∃w1,w1=w.alloc (.cells p.cells.toArray 137):=⟨_,rfl⟩;have dn:Fr aS w w1:=by rw[oq];exact(ae _ _).alloc _
 have lW:w1.heap[w.heap.size]?=some (.cells p.cells.toArray 137 (0,0)):=by rw[oq];exact aC _ _
 have HP:=O (show∀U,Fr aS w1 U->uB U w.heap.size 0 p from fun U hU=>uB.eJ (hU.keep lW id));have HL:=O (show∀U,Fr aS w1 U->qF U (.slice av ps.length cv) ps from fun U hU=>bh h (dn.trans hU));have lq:=O dn;have Ho:=O oq;clear h dn lW;unfold ef.cells at oq HQ ⊢;go_enter func198,ntmps198;go_wp2;rw[<-oq];clear oq
 go_loopw[8] (air w1 ps.length (fun k=>!(ps.take k).any (fun q=>p.kV q))) (fun i _=>ps.length-(intOf i).toNat)
 case atStart=>exact⟨0,aQ _,rfl,rfl,ae _ _⟩
 case round =>
  obtain⟨k,hk,rfl,hn,cL⟩:=hrel;have HN:=O (show(ps.take k).any (fun q=>p.kV q)=false by simpa using hn);clear hn;by_cases fk:k<ps.length
  ·have o_:(k:Int)<(ps.length:Int):=ab;have NP:(0:Int)<=(k:Int):=ab;obtain⟨bk,of,rfl,g1,g2,g3,g4,g5⟩:=qF.lie (HL.o wr cL) (by intro e;rw[e]at fk;cases fk);unfold maxLen at g3;have dP:=O (List.getElem?_eq_getElem fk);generalize ps[k]=q at dP;obtain⟨c0,c1,c2,c3,c4,c5,c6,c7,c8,c9,Gd,Tg⟩:=g5 k q dP.o;obtain⟨d0,d1,d2,d3,d4,d5,d6,d7,d8,d9,d10,d11⟩:=HP.o wr cL
   simp only[bw]at d0 d1 d2 d3 d4 d5 d6 d7 d8 d9 d10 d11;have heq:=HQ.o q;unfold ef.cells at heq;have hfd:=cL.drewN;clear g1 g5;cases he:p.kV q
   ·have pV:=O (any_take_succ dP.o HN.o he);rw[he]at heq;clear he;go_wp2;go_quiet (fail);go_wp2;go_roundw
    case rel=>exact⟨k+1,ab,bg,by show(!(ps.take (k+1)).any (fun q=>p.kV q))=true;rw[pV.o];rfl,cL.drewN _⟩
    case measure=>simp[intOf];omega
   ·have fe:=O (oK (i:=0) dP.o he HN.o);rw[he]at heq;clear he;go_wp2;go_quiet (fail);go_wp2;go_ret;rw[fe.o,bw];exact⟨rfl,lq.o.trans (cL.drewN _)⟩
  ·have o_:¬(k:Int)<(ps.length:Int):=ab;have fe:=O (show lQ (fun q=>p.kV q) ps 0= -1 from kh (by have h:=HN.o;rw[aD ab]at h;exact h));go_wp2;go_ret;rw[fe.o];exact⟨rfl,lq.o.trans cL⟩
theorem Li(v:Value)(ps:List ef)(p:ef)(w:World)(h:qF w v ps) :
  aB 140 #[v,.agg p.cells.toArray] w fun e w'=>e=.returned (.bool (ps.any (fun q=>p.kV q)))/\Fr aS w w':=by
 have hb:=O (rD (fun q=>p.kV q) ps 0);have dn:Fr aS w (w.alloc (.cells p.cells.toArray 137)):=(ae _ _).alloc _;have lW:(w.alloc (.cells p.cells.toArray 137)).heap[w.heap.size]?=some (.cells p.cells.toArray 137 (0,0)):=aC _ _;have HC:=O (Vx v ps p _ (bh h dn));obtain⟨av,cv,hv⟩:=dI h;subst hv;rw[ai]at HC ⊢;have lq:=O dn;have G:=O lW;clear h dn lW;unfold ef.cells at *
 go_enter func140,ntmps140;go_wp2_with (first|((with_reducible refine dk 6 ?_);refine aI rfl 137 (.tmp 3) rfl w.heap.size rfl _ _ (0,0) _ G.o underlying137 rfl af ?_)|fail)
 refine HC.o.mono ?_;rintro e w2⟨rfl,dz⟩;go_wp2;go_ret;exact⟨fy hb.o,lq.o.trans dz⟩
def AW(w:World)(b:Nat)(r:gl Value):Prop :=
 w.cell? ⟨b,0,none⟩=some (.int .i64 r.part)/\w.cell? ⟨b,1,none⟩=some (.bool r.cW.aE)/\w.cell? ⟨b,2,none⟩=some (.string r.cW.host)/\w.cell? ⟨b,3,none⟩=some (.int .i64 r.cW.port)/\w.cell? ⟨b,4,none⟩=some (.bool r.o.aE)/\w.cell? ⟨b,5,none⟩=some (.string r.o.host)/\w.cell? ⟨b,6,none⟩=some (.int .i64 r.o.port)/\w.cell? ⟨b,7,none⟩=some (.string r.path)/\w.cell? ⟨b,8,none⟩=some (.string r.query)/\w.cell? ⟨b,9,none⟩=some (.string r.method)/\w.cell? ⟨b,10,none⟩=some r.en/\w.cell? ⟨b,11,none⟩=some (.bool r.fN)/\w.cell? ⟨b,12,none⟩=some (.string r.body)
theorem AW.eJ{r:gl Value}(h:w.heap[b]?=some (.cells r.cells.toArray 29 (0,0))):AW w b r:=by
 have hc:∀i u,r.cells[i]?=some u->w.cell? ⟨b,i,none⟩=some u:=fun i u hu=>by simp only[World.cell?,h];simpa using hu
 exact⟨hc 0 _ rfl,hc 1 _ rfl,hc 2 _ rfl,hc 3 _ rfl,hc 4 _ rfl,hc 5 _ rfl,hc 6 _ rfl,hc 7 _ rfl,hc 8 _ rfl,hc 9 _ rfl,hc 10 _ rfl,hc 11 _ rfl,hc 12 _ rfl⟩
theorem R8(ps:List ef)(p:ef):(p9 ps p).length<=ps.length+1:=by
 unfold p9;split
 ·omega
 ·simp
theorem yq:∀(l ps:List ef),(l.foldl p9 ps).length<=ps.length+l.length
 |[],ps=>aR
 |p :: l,ps=>by
  rw[List.foldl_cons];have h1:=yq l (p9 ps p);have h2:=R8 ps p;rw[List.length_cons];omega
theorem Ea{n:Bs}{l:List Bs}(h:kS ps n=some l):l.length<=40:=by
 unfold kS at h;split at h
 ·cases h
 ·split at h
  ·cases h
  ·cases h;omega
theorem R9{r:qO}{t:Bs}{now:Int}{m:List ef}(h:ug r t ps now=.ok m):m.length<=81:=by
 unfold ug at h;cases e1:kS ps J6 with
 |none=>rw[e1]at h;cases h
 |some ms =>
  cases e2:kS ps xP with
  |none=>rw[e1,e2]at h;cases h
  |some hs =>
   rw[e1,e2]at h;simp only at h;split at h
   ·cases h
   ·split at h
    ·cases h
    ·cases h;have h1:=Ea e1;have h2:=Ea e2;unfold qO.bU;refine aF (yq _ _) ?_;rw[ai];have h3:=yq ((r.methods ms).map fun m=>r.CU (now+mW ps) m (bA [])) [];rw[ai]at h3;have h4:(r.methods ms).length<=40:=by
      unfold qO.methods;split
      ·simp
      ·rw[ai];exact h1
     simp only[List.length_nil,bw]at h3;omega
def gl.LY{D:Type}(r:gl D):Prop:=r.method.size<=140737488351232/\r.path.size<=140737488351232/\r.query.size<=140737488351232/\r.o.host.size<=140737488351232/\r.cW.host.size<=140737488351232
theorem FG:∀(l:List (jn×Bs)) (p:jn×Bs),xf (l++[p])=xf l++((if l.isEmpty then []else [44,32])++QA p.1 p.2)
 |[],p=>rfl
 |[a],p=>by simp[xf]
 |a :: b :: l,p=>by
  have ih:=FG (b :: l) p;simp only[List.cons_append,xf]at ih ⊢;rw[ih];simp
abbrev Item:=Bs×Bs×Bool
def Item.par(i:Item):jn×Bs:=((i.1,i.2.1),AA i.2.2 i.2.1)
def Hm(l:List (jn×Bs)):Bs:=acN++32 :: xf l
def vH(l:List Item):Bs:=Hm (l.map Item.par)
def xT(l:List Item):Bool:=l.any fun i=>AB i.2.2 i.2.1
theorem QL(p:jn×Bs)(l:List (jn×Bs)):0<(xf (p :: l)).length:=by
 cases l with
 |nil=>simp[xf,QA];omega
 |cons q l=>simp[xf,QA];omega
theorem Kf(l:List Item)(nm v:Bs)(q:Bool):qq (vH l) nm (AA q v)=vH (l++[(nm,v,q)]):=by
 unfold qq vH;rw[bG];show _=Hm (l.map Item.par++[((nm,v),AA q v)]);unfold Hm;rw[FG];cases l with
 |nil=>rfl
 |cons a l =>
  have h:=QL a.par (l.map Item.par);rw[aA (by simp[acN]at h ⊢; omega)];simp[QA]
theorem QM(l:List Item)(nm v:Bs)(q:Bool):(xT l||AB q v)=xT (l++[(nm,v,q)]):=by unfold xT;simp
theorem Ue(q:Bool)(v:Bs):(AA q v).length<=2*v.length+2:=by
 have:=Ke v;unfold AA;split
 ·split
  ·exact this
  ·simp
 ·omega
theorem Uf(l nm x:Bs):(qq l nm x).length<=l.length+nm.length+x.length+3:=by
 unfold qq;split<;>simp<;>omega
def vI(user aK bq uri QB name:Bs):List Item:=[(Pg,user,true),(vt,aK,true),(vu,bq,true),(Yr,uri,true),(Ph,QB,true),(yO,name,false)]
def C_(eF count:Bs):List Item:=if eF.isEmpty then []else [(JQ,eF,false),(nNc,count,false)]
def Ug(eF:Bs)(cA:Bool)(bK:Bs):List Item:=if !eF.isEmpty||cA then [(Ci,bK,true)]else []
def C'(cy:Bs):List Item:=if cy.isEmpty then []else [(lZ,cy,true)]
def iP.items(d:iP):List Item:=vI d.user d.aK d.bq d.uri d.QB (pd d.scheme d.cA)++(C_ d.eF d.count++(Ug d.eF d.cA d.bK++C' d.cy))
theorem iP.YI{d:iP}(h:xT d.items=false):d.fair=true:=by
 unfold iP.items vI C_ Ug C' xT at h;unfold iP.fair;simp only[List.any_append,List.any_cons,List.any_nil,Bool.or_false,eK,AB,Bool.true_and,kn,Bool.not_eq_false']at h;obtain⟨⟨h1,h2,h3,h4,h5⟩,_,h6,h7⟩:=h;rw[h1,h2,h3,h4,h5];simp only[Bool.true_and];have g6:(!(!d.eF.isEmpty||d.cA)||nU d.bK)=true:=by
  cases hc:(!d.eF.isEmpty||d.cA)
  ·rfl
  ·rw[hc]at h6;simpa[AB]using h6
 have g7:(d.cy.isEmpty||nU d.cy)=true:=by
  cases hc:d.cy.isEmpty
  ·rw[hc]at h7;simpa[AB]using h7
  ·rfl
 rw[g6,g7];rfl
theorem iP.YJ(d:iP):xT d.items=!d.fair:=by
 unfold iP.items vI C_ Ug C' xT iP.fair;cases d.eF.isEmpty<;>cases d.cA<;>cases d.cy.isEmpty<;>simp[AB]
theorem Da{n v:Bs}(h:nU v=true):Item.par (n,v,true)=qP n v:=by unfold Item.par qP AA;simp[h]
theorem agP(n v:Bs):Item.par (n,v,false)=pP n v:=rfl
theorem iP.YK{d:iP}(h:d.fair=true):vH d.items=d.text:=by
 unfold iP.fair at h;simp only[cF]at h;obtain⟨f1,f2,f3,f4,f5,f6,f7⟩:=h;unfold vH Hm iP.text
 congr 2
 have e1:(vI d.user d.aK d.bq d.uri d.QB (pd d.scheme d.cA)).map Item.par=d.head:=by
  unfold vI iP.head;simp only[cD,dp,Da f1,Da f2,Da f3,Da f4,Da f5,agP]
 have e2:(C_ d.eF d.count).map Item.par=d.two:=by
  unfold C_ iP.two;split<;>rfl
 have e3:(Ug d.eF d.cA d.bK).map Item.par=d.cn:=by
  unfold Ug iP.cn;cases hc:(!d.eF.isEmpty||d.cA)
  ·rfl
  ·rw[hc]at f6;simp only[eb,cD,dp,Da (show nU d.bK=true by simpa using f6)]
 have e4:(C' d.cy).map Item.par=d.op:=by
  unfold C' iP.op;cases hc:d.cy.isEmpty
  ·rw[hc]at f7;simp only[cJ,eV,cD,dp,Da (show nU d.cy=true by simpa using f7)]
  ·rfl
 unfold iP.items iP.yX;rw[bG,bG,bG,e1,e2,e3,e4]
theorem Kg(fO:Int)(aK bq cy eF:aj)(cA cN:Bool)(dom:Value)(w:World) :
  aB 110 #[.agg #[.int .i64 fO,.string aK,.string bq,.string cy,.bool cA,.string eF,.bool cN,dom]] w fun e w'=>e=.returned (.string (bA (pd fO cA)))/\Fr aS w w':=by
 by_cases h3:fO=3
 ·cases cA with
  |false =>
   have E:bA (pd fO false)=⟨#[83,72,65,45,50,53,54]⟩:=by unfold pd;rw[aA h3];rfl
   have HE:=O E;clear E;go_enter func110,ntmps110;go_wp2;go_ret;exact⟨by rw[HE.o];rfl,(ae aS w).alloc _⟩
  |true =>
   have E:bA (pd fO true)=⟨#[83,72,65,45,50,53,54,45,115,101,115,115]⟩:=by unfold pd;rw[aA h3];rfl
   have HE:=O E;clear E;go_enter func110,ntmps110;go_wp2;go_ret;exact⟨by rw[HE.o];rfl,(ae aS w).alloc _⟩
 ·cases cA with
  |false =>
   have E:bA (pd fO false)=⟨#[77,68,53]⟩:=by unfold pd;rw[ar h3];rfl
   have HE:=O E;clear E;go_enter func110,ntmps110;go_wp2;go_ret;exact⟨by rw[HE.o];rfl,(ae aS w).alloc _⟩
  |true =>
   have E:bA (pd fO true)=⟨#[77,68,53,45,115,101,115,115]⟩:=by unfold pd;rw[ar h3];rfl
   have HE:=O E;clear E;go_enter func110,ntmps110;go_wp2;go_ret;exact⟨by rw[HE.o];rfl,(ae aS w).alloc _⟩
abbrev jF := @iP.YJ
abbrev jG := @iP.YI
abbrev jH := @iP.YK
theorem F7:(prog.info? 129).map (fun i=>(i.zero,i.size,i.bytes))=some (some (.agg vR),13,168):=af
def adE(base:Nat)(w:World)(b:Nat)(o:Nat)(g:bI bE):Prop :=
 ∃r:bI Value,(∀u∈r.cells,u.oneCell'=true)/\r.Reads (du base w) g/\∀(i:Nat) u,r.cells[i]?=some u->w.cell? ⟨b,o+i,none⟩=some u
theorem jY.at{base:Nat}{w:World}{v:Value}{gs:List (bI bE)}(h:jY base w v gs){k:Nat}(hk:k<gs.length) :
  ∃b c,v=.slice (some ⟨b,0,none⟩) gs.length c/\gs.length<=maxLen/\adE base w b (k*13) gs[k]:=by
 obtain⟨rs,h1,h2⟩:=h;have hl:=h2.len;obtain⟨x,hx⟩:∃x,rs[k]?=some x:=⟨_,List.getElem?_eq_getElem ab⟩;obtain⟨g,hg,hr⟩:=h2.get hx;rw[List.getElem?_eq_getElem hk]at hg;obtain rfl:=jR hg;have dP:=h1.at;rcases h1.2.2 with ⟨_,hn⟩|⟨bk,cap,cur,hv,_⟩
 ·rw[ai]at hn;omega
 rcases dP.2 with ⟨_,_,e1,e,_⟩|⟨Jf,o,c,rW,q1,q2,q3,q4⟩
 ·simp at e;rw[e]at hl;simp at hl;omega
 ·rw[hv]at rW;cases rW;rw[ai]at q1;refine⟨bk,cap,by rw[hv,ai,hl],ab,x,(h1.1 x.cells (bZ.2 ⟨x,cj hx,rfl⟩)).2,hr,?_⟩;intro i u hu;have:=q4 k x.cells (by rw[List.getElem?_map,hx];rfl) i u hu;rw[bw]at this;exact this
def U3(base:Nat)(w:World)(gs:List (bI bE))(v:Value)(w':World):Prop:=jY base w' v gs/\∀k,v.ownBlock=some k->w.heap.size<=k
def F8(base:Nat)(w:World)(gs:List (bI bE))(e:Ending)(w':World):Prop :=
 ∃v,e=.returned v/\U3 base w gs v w'/\Fr aS w w'
def ahP(base:Nat)(w:World)(gs:List (bI bE))(v i:Value)(wr:World):Prop :=
 ∃(k:Nat) (rs:List (bI Value)),k<=gs.length/\i=.int .i64 k/\OwnRows w.heap.size 129 13 wr v (rs.map bI.cells)/\kT (bI.Reads (du base wr)) rs (gs.take k)/\Fr aS w wr
def bI.mP(r:bI Value)(d:Value):bI Value:={r with a:={r.a with dom:=d}}
theorem F9(base:Nat)(w:World)(b:Nat)(gv wv:Value)(gs:List (aP bE))(ws:List (bI bE))(h:dD base w b gv wv gs ws)(Nn:ws.length<68719476736) :
  aB 68 #[.pointer (some ⟨b,0,none⟩)] w (F8 base w ws):=by
 have h0:=h.c1;obtain⟨av,cv,hv⟩:=h.waits.form;subst hv;have tV:=h.lt;have ix:base<=w.heap.size:=by have:=h.low;omega
 go_enter func68,ntmps68;go_wp2;clear h0;go_loopw[3,11] (ahP base w ws) (fun _ i _=>ws.length-(intOf i).toNat)
 case atStart=>exact⟨0,[],aQ _,rfl,dx _ _ _ _,.nil,ae _ _⟩
 case round =>
  obtain⟨k,rs,hk,rfl,cQ,vO,cL⟩:=hrel;by_cases fk:k<ws.length
  ·obtain⟨bk,c,dn,sG,r,dX,hr,hcell⟩:=(h.di cL).waits.at fk;cases dn;unfold maxLen at sG;obtain⟨ad,cd,xl⟩:=hr.2.2.2.2.2.2.2.2.2.2.rd.form;obtain⟨x,hx⟩:∃x,x=r.cells:=⟨_,rfl⟩;have lp:x.length=13:=by rw[hx];rfl
   have jq:=fun W=>run_storeCells_new (P:=prog) W 129 vR x (by rw[lp];rfl) (by rw[hx];exact dX);rw[<-hx]at hcell;have HX:=O hx;have Hu:=O (AK lp);have adF:x[12]?=some (.slice ad ws[k].a.dom.length cd):=by rw[hx, <-xl];rfl
   clear hx;obtain⟨av,cv,UP⟩:=cQ.form;subst UP;rw[ai,vO.len,aM,dL hk]at cQ ⊢;have gO:Fr aS wr (wr.alloc (.cells x.toArray 129)):=(ae aS wr).alloc _;have Jd:(wr.alloc (.cells x.toArray 129)).heap[wr.heap.size]?=some (.cells x.toArray 129 (0,0)):=aC _ _
   have c12:(wr.alloc (.cells x.toArray 129)).cell? ⟨wr.heap.size,12,none⟩=some (.slice ad ws[k].a.dom.length cd):=by simp only[World.cell?,Jd];simpa using adF
   have ob:=hr.mono (fun _ _ h=>h.di gO);have xp:=ob.2.2.2.2.2.2.2.2.2.2;rw[xl]at xp;have CL:=O (rF base _ _ _ xp);go_wp2_with (first|((with_reducible refine dk 14 ?_);refine a_ rfl 129 (.tmp 13) rfl bk (k*13) rfl x _ hcell underlying129 rfl Hu.o ?_)|fail)
   have rT:=O (cL.trans gO);have fA:=cQ.alloc (.cells x.toArray 129);have DA:=vO.mono (fun _ _ h=>h.mono (fun _ _ h=>h.di gO));have jQ:w.heap.size<=wr.heap.size:=cL.size;have anG:=cQ.lt;clear jq hcell hr cQ vO cL xp gO;generalize wr.alloc (.cells x.toArray 129)=W2 at *
   refine CL.o.mono ?_;rintro e u1⟨a2,c2,rfl,BQ,dn⟩;have pW:=dn.keep Jd id;have rq:=ob.mono (fun _ _ h=>h.di dn);have fq:=fA.fr dn (fun _ _ h=>h);have DB:=DA.mono (fun _ _ h=>h.mono (fun _ _ h=>h.di dn));have Re:=rT.o.trans dn;have ahQ:u1.cell? ⟨wr.heap.size,12,none⟩=some (.slice ad ws[k].a.dom.length cd):=by simp only[World.cell?,pW];simpa using adF
   have f12:u1.frozen? ⟨wr.heap.size,12,none⟩=false:=by simp[World.frozen?,pW]
   have ko:=b_ pW 12 (.slice a2 ws[k].a.dom.length c2);have hye:x.toArray.setIfInBounds 12 (.slice a2 ws[k].a.dom.length c2)=(r.mP (.slice a2 ws[k].a.dom.length c2)).cells.toArray:=by rw[HX.o];rfl
   rw[hye]at ko;have rG:rR base u1 (one wr.heap.size):=by
    rintro j rfl hj;exact⟨ab,fun c f e=>by rw[pW]at e;cases e⟩
   have kx:Fr (one wr.heap.size) u1 (u1.setCell ⟨wr.heap.size,12,none⟩ (.slice a2 ws[k].a.dom.length c2)):=(ae (one wr.heap.size) u1).setCell (p:=⟨wr.heap.size,12,none⟩) (fun _=>rfl) _;have Ai:∀j,(Value.slice av k cv).ownBlock=some j->¬one wr.heap.size j:=by
    rintro j hj rfl;have:=anG _ hj;omega
   have fY:=Re.gF (p:=⟨wr.heap.size,12,none⟩) jQ (.slice a2 ws[k].a.dom.length c2);have vn:(r.mP (.slice a2 ws[k].a.dom.length c2)).Reads (du base (u1.setCell ⟨wr.heap.size,12,none⟩ (.slice a2 ws[k].a.dom.length c2))) ws[k] :=
    ⟨rq.1,rq.2.1,rq.2.2.1,rq.2.2.2.1,rq.2.2.2.2.1,rq.2.2.2.2.2.1,rq.2.2.2.2.2.2.1,rq.2.2.2.2.2.2.2.1,rq.2.2.2.2.2.2.2.2.1,rq.2.2.2.2.2.2.2.2.2.1,BQ.fr kx rG⟩
   have eZ:=fq.fr kx Ai;have Nz:=DB.mono (fun _ _ h=>h.mono (fun _ _ h=>h.fr kx rG));have DK:∀u∈(r.mP (.slice a2 ws[k].a.dom.length c2)).cells,u.oneCell'=true:=by
    intro u hu;simp only[bI.cells,bI.mP,bB,cz,dU]at hu;rcases hu with rfl|rfl|rfl|rfl|rfl|rfl|rfl|rfl|rfl|rfl|rfl|rfl|rfl<;>rfl
   obtain⟨y,hy⟩:∃y,y=(r.mP (.slice a2 ws[k].a.dom.length c2)).cells:=⟨_,rfl⟩;have CP:y.length=13:=by rw[hy];rfl
   rw[<-hy]at DK ko;have HY:=O hy;have pN:=O ko;have HYI:=O (AK CP);have Hw:=O eZ;have FW:=vD y vR (by rw[CP];rfl);have hbw:w.heap.size<=(u1.setCell ⟨wr.heap.size,12,none⟩ (.slice a2 ws[k].a.dom.length c2)).heap.size:=fY.size;have U4:=O (show(u1.setCell ⟨wr.heap.size,12,none⟩ (.slice a2 ws[k].a.dom.length c2)).heap.size=u1.heap.size by simp[World.setCell]);have auu:w.heap.size<=u1.heap.size:=Re.size
   have uT:=Nz.len;rw[aM,dL hk]at uT;have Nh:(rs.map bI.cells).length<68719476736:=by rw[ai,uT];omega
   have XB:=O vn;have ahS:=O Nz;have anH:=O fY;clear uT rq ob fA fq DA DB Jd pW rG kx Ai BQ hye hy adF c12 CL eZ Nz vn fY Re dn ko rT xl
   go_wp2_with (first|((with_reducible refine dk 22 ?_);refine aI rfl 129 (.tmp 5) rfl wr.heap.size rfl _ y.toArray (0,0) _ pN.o underlying129 rfl (by rw[aZ];exact HYI.o) ?_)|(at_builtin;refine nJ rfl _ _ 116 129 rfl 13 168 (.agg vR) underlying116 F7 rfl ag ag w.heap.size (.slice av k cv) (rs.map bI.cells) rfl (Hw.o.alloc _) u1.heap.size 1 y rfl CP DK (fun i u hi=>by rw[<-U4.o,World.cell?_alloc_mark];simpa using hi) Nh bH ?_;intro v' w4 eZ BU))
   have Ez:=Fr.Pj _ BU;have mO:=Hw.o.off (base:=base) ix ag;rw[HY.o]at eZ;refine⟨⟨k+1,rs++[r.mP (.slice a2 ws[k].a.dom.length c2)],ab,bg,by rw[bG];exact eZ,?_,anH.o.step Ez (fun j hj hS=>by have h2:=Hw.o.block j hS;omega)⟩,by simp[intOf];omega⟩;rw[dW (List.getElem?_eq_getElem fk)];exact(ahS.o.mono (fun _ _ h=>h.mono (fun _ _ h=>h.fr Ez mO))).app (.cons (XB.o.mono (fun _ _ h=>h.fr Ez mO)) .nil)
  ·rw[aD ab]at vO;obtain⟨av,cv,UP⟩:=cQ.form;subst UP;go_wp2;go_ret;exact⟨_,rfl,⟨⟨rs,cQ.up ix,vO⟩,cQ.block⟩,cL⟩
def KK(base:Nat)(w:World)(gs:List (aP bE))(ws:List (bI bE))(e:Ending)(w':World):Prop :=
 ∃b gv wv,e=.returned (.pointer (some ⟨b,0,none⟩))/\dD base w' b gv wv gs ws/\Fr aS w w'/\∀k,dv b gv wv k->w.heap.size<=k
theorem U5(base:Nat)(w:World)(b:Nat)(gv wv:Value)(gs:List (aP bE))(ws:List (bI bE))(h:dD base w b gv wv gs ws)(Nn:gs.length<68719476736)(Ew:ws.length<68719476736) :
  aB 39 #[.pointer (some ⟨b,0,none⟩)] w (KK base w gs ws):=by
 have tV:=h.lt;have k_:=h.low;go_enter func39,ntmps39;go_wp2_with fail
 refine(Dz base w b gv wv gs ws h Nn).mono ?_;intro e u1 hp;obtain⟨v1,rfl,⟨Fh,Jg⟩,dn⟩:=hp;go_wp2_with fail
 refine(F9 base u1 b gv wv gs ws (h.di dn) Ew).mono ?_;intro e u2 hp;obtain⟨v2,rfl,⟨xb,AE⟩,dz⟩:=hp;obtain⟨a1,c1,EE⟩:=Fh.form;obtain⟨a2,c2,hv2⟩:=xb.form;subst EE hv2;have BQ:=dn.size;have Mo:=dz.size;have gO:Fr aS u2 (u2.alloc (.cells #[.slice a1 gs.length c1,.slice a2 ws.length c2] 118)):=(ae aS u2).alloc _
 have HB:=O (show dD base (u2.alloc (.cells #[.slice a1 gs.length c1,.slice a2 ws.length c2] 118)) u2.heap.size (.slice a1 gs.length c1) (.slice a2 ws.length c2) gs ws from
  ⟨ab,aC _ _,(Fh.fr dz (fC _ _) (fun _ _ h=>h)).fr gO (fC _ _) (fun _ _ h=>h),xb.fr gO (fC _ _) (fun _ _ h=>h)⟩)
 have HF:=O ((dn.trans dz).trans gO);have HN:=O (show∀k,dv u2.heap.size (.slice a1 gs.length c1) (.slice a2 ws.length c2) k->w.heap.size<=k from fun k hk=>by
  rcases hk with rfl|hk|hk
  ·omega
  ·exact Jg k hk
  ·have:=AE k hk;omega)
 clear Fh xb Jg AE gO h;go_wp2;go_ret;exact⟨_,_,_,rfl,HB.o,HF.o,HN.o⟩
theorem du.anL(base:Nat)(w:World)(x:aj):du base (w.alloc (.cells #[.string x] 9)) (.slice (some ⟨w.heap.size,0,none⟩) 1 1) [x]:=by
 refine⟨Or.inr ⟨w.heap.size,0,1,rfl,ay _,by simp[maxLen],aR,fun j z hj=>?_⟩,fun k hk _=>?_,aR⟩
 ·rw[bw,World.cell?_alloc_mark]
  match j,hj with
  |0,hj=>simp at hj;subst hj;rfl
 ·simp[Value.ownBlock]at hk;subst hk;exact⟨aR,Or.inr ⟨_,_,aC _ _⟩⟩
theorem U_(p q:ef)(w:World) :
  aB 144 #[.agg p.cells.toArray,.agg q.cells.toArray] w fun e w'=>e=.returned (.bool (p.like q))/\Fr aS w w':=by
 have heq:=KQ {p with pL:=q.pL} q;have HR:=O (show p.like q=({p with pL:=q.pL}:ef).kV q from rfl);obtain⟨W0,hW0⟩:∃W0,W0=(w.alloc (.cells p.cells.toArray 137)).alloc (.cells q.cells.toArray 137):=⟨_,rfl⟩;have oW:Fr aS w W0:=by rw[hW0];exact((ae aS w).alloc _).alloc _
 have h0:W0.heap[w.heap.size]?=some (.cells p.cells.toArray 137 (0,0)):=by rw[hW0];exact((ae aS _).alloc _).keep (aC _ _) id
 have h1:W0.heap[w.heap.size+1]?=some (.cells q.cells.toArray 137 (0,0)):=by
  have h:=aC (w.alloc (.cells p.cells.toArray 137)) (.cells q.cells.toArray 137);rw[bN]at h;rw[hW0];exact h
 have Tg:W0.cell? ⟨w.heap.size+1,11,none⟩=some (.int .i64 q.pL):=by simp only[World.cell?,h1];rfl
 have d11:W0.cell? ⟨w.heap.size,11,none⟩=some (.int .i64 p.pL):=by simp only[World.cell?,h0];rfl
 have e11:W0.frozen? ⟨w.heap.size,11,none⟩=false:=by simp[World.frozen?,h0]
 clear h0 h1 oW;rw[hW0]at Tg d11 e11;clear hW0;have hF:Fr aS w ((w.alloc (.cells ({p with pL:=q.pL}:ef).cells.toArray 137)).alloc (.cells q.cells.toArray 137)):=((ae aS w).alloc _).alloc _
 have g0:((w.alloc (.cells ({p with pL:=q.pL}:ef).cells.toArray 137)).alloc (.cells q.cells.toArray 137)).heap[w.heap.size]?=some (.cells ({p with pL:=q.pL}:ef).cells.toArray 137 (0,0)):=((ae aS _).alloc _).keep (aC _ _) id;have g1:((w.alloc (.cells ({p with pL:=q.pL}:ef).cells.toArray 137)).alloc (.cells q.cells.toArray 137)).heap[w.heap.size+1]?=some (.cells q.cells.toArray 137 (0,0)):=by
  have h:=aC (w.alloc (.cells ({p with pL:=q.pL}:ef).cells.toArray 137)) (.cells q.cells.toArray 137);rw[bN]at h;exact h
 unfold ef.cells at *
 dsimp only at heq hF g0 g1;have G:=O (And.intro g0 g1);have HF:=O hF;clear g0 g1 hF;go_enter func144,ntmps144;go_wp2_with (first|((with_reducible refine dk 8 ?_);refine aI rfl 137 (.tmp 2) rfl w.heap.size rfl _ _ (0,0) _ G.o.1 underlying137 rfl af ?_)|((with_reducible refine dk 9 ?_);refine aI rfl 137 (.tmp 3) rfl (w.heap.size+1) rfl _ _ (0,0) _ G.o.2 underlying137 rfl af ?_)|fail)
 go_ret;exact⟨by rw[HR.o];rfl,HF.o⟩
theorem Gf(p:ef)(now:Int)(w:World) :
  aB 130 #[.agg p.cells.toArray,.int .i64 now] w fun e w'=>e=.returned (.bool (p.alive now))/\Fr aS w w':=by
 have HR:=O (show p.alive now=decide (now<p.pL)from rfl);have gO:Fr aS w _:=(ae aS w).alloc (.cells p.cells.toArray 137);have h0:(w.alloc (.cells p.cells.toArray 137)).heap[w.heap.size]?=some (.cells p.cells.toArray 137 (0,0)):=aC _ _;have Tg:(w.alloc (.cells p.cells.toArray 137)).cell? ⟨w.heap.size,11,none⟩=some (.int .i64 p.pL):=by simp only[World.cell?,h0];rfl
 clear h0;unfold ef.cells at *
 go_enter func130,ntmps130;go_wp2;go_ret;exact⟨by rw[HR.o];rfl,gO⟩
theorem ef.tO(p:ef):∀u∈p.cells,u.oneCell'=true:=by
 unfold ef.cells;simp[Value.oneCell']
theorem Va(p q:ef)(bp:Nat)(w:World)(hp:w.heap[bp]?=some (.cells p.cells.toArray 137 (0,0))) :
  aB 143 #[.agg q.cells.toArray,.pointer (some ⟨bp,0,none⟩)] w fun e w'=>e=.returned (.bool (p.like q))/\Fr aS w w':=by
 have gO:Fr aS w (w.alloc (.cells q.cells.toArray 137)):=(ae aS w).alloc _;have g0:=gO.keep hp id;have g1:(w.alloc (.cells q.cells.toArray 137)).heap[w.heap.size]?=some (.cells q.cells.toArray 137 (0,0)):=aC _ _;have HL:=O (U_ p q (w.alloc (.cells q.cells.toArray 137)));have G:=O (And.intro g0 g1);have HF:=O gO;clear hp g0 g1 gO;unfold ef.cells at *
 go_enter func143,ntmps143;go_wp2_with (first|((with_reducible refine dk 4 ?_);refine aI rfl 137 (.tmp 1) rfl bp rfl _ _ (0,0) _ G.o.1 underlying137 rfl af ?_)|((with_reducible refine dk 5 ?_);refine aI rfl 137 (.tmp 2) rfl w.heap.size rfl _ _ (0,0) _ G.o.2 underlying137 rfl af ?_)|fail)
 refine HL.o.mono ?_;rintro e u⟨rfl,hf⟩;go_wp2;go_ret;exact⟨rfl,HF.o.trans hf⟩
theorem Vb(q:ef)(now:Int)(bn:Nat)(w:World)(hn:w.heap[bn]?=some (.cells #[.int .i64 now] 3 (0,0))) :
  aB 145 #[.agg q.cells.toArray,.pointer (some ⟨bn,0,none⟩)] w fun e w'=>e=.returned (.bool (!q.alive now))/\Fr aS w w':=by
 have gO:Fr aS w (w.alloc (.cells q.cells.toArray 137)):=(ae aS w).alloc _;have g0:=gO.keep hn id;have g1:(w.alloc (.cells q.cells.toArray 137)).heap[w.heap.size]?=some (.cells q.cells.toArray 137 (0,0)):=aC _ _;have cn:(w.alloc (.cells q.cells.toArray 137)).cell? ⟨bn,0,none⟩=some (.int .i64 now):=by simp only[World.cell?,g0];rfl
 have HL:=O (Gf q now (w.alloc (.cells q.cells.toArray 137)));have G:=O g1;have HF:=O gO;clear hn g0 g1 gO;unfold ef.cells at *
 go_enter func145,ntmps145;go_wp2_with (first|((with_reducible refine dk 4 ?_);refine aI rfl 137 (.tmp 2) rfl w.heap.size rfl _ _ (0,0) _ G.o underlying137 rfl af ?_)|fail)
 refine HL.o.mono ?_;rintro e u⟨rfl,hf⟩;go_wp2;go_ret;exact⟨rfl,HF.o.trans hf⟩
def Vl(n:Nat)(er:Value)(w':World):Prop :=
 er=.iface 82 (.int .i64 n)\/∃g p,er=.iface 220 (.pointer (some ⟨g,0,none⟩))/\w'.heap[g]?=some (.cells #[.int .i64 n,.int .i64 p] 222 (0,0))
def n9(s:aj)(w:World)(e:Ending)(w':World):Prop :=
 Fr aS w w'/\match mq s.data.toList with
  | .error n=>∃er,e=.returned (.tuple #[.slice none 0 0,er])/\Vl n er w'
  | .ok l=>∃v,e=.returned (.tuple #[v,.nilIface])/\lf w.heap.size w' v l
theorem n9.bad{er:Value}(h:mq s.data.toList=.error n)(hf:Fr aS w w')(he:Vl n er w'):n9 s w (.returned (.tuple #[.slice none 0 0,er])) w':=by
 refine⟨hf,?_⟩;rw[h];exact⟨er,rfl,he⟩
theorem n9.ok{l:List ni}(h:mq s.data.toList=.ok l)(hf:Fr aS w w')(hv:lf w.heap.size w' v l):n9 s w (.returned (.tuple #[v,.nilIface])) w':=by
 refine⟨hf,?_⟩;rw[h];exact⟨v,rfl,hv⟩
theorem La(acc:List ni)(r:Bs):jW (r.length+1) acc r=if(iz r).isEmpty then .ok acc else
  match o7 acc.length (iz r)with
  | .error e=>.error e
  | .ok q=>jW (q.2.length+1) (acc++[q.1]) q.2:=by
 rw[jW];split
 ·rfl
 ·cases ho:o7 acc.length (iz r)with
  |error e=>rfl
  |ok q =>
   obtain⟨x,r1⟩:=q;have h1:=Cg ho;have h2:=oA r;simp only;rw[pY r.length _ _ ab]
def aii(s:aj)(w:World)(wr:World):Prop :=
 ∃acc v j,j<=s.size/\iB wr (w.heap.size+1) w.heap.size s v/\dw wr w.heap.size s j/\lf w.heap.size wr v acc/\Fr aS w wr/\acc.length<=8/\iz (s.data.toList.drop j)=s.data.toList.drop j /\
  mq s.data.toList=jW ((s.data.toList.drop j).length+1) acc (s.data.toList.drop j)
theorem Rq(s:aj)(w:World)(hs:s.size<=140737488351232) :
  aB 76 #[.string s] w (n9 s w):=by
 by_cases h3:3000<s.size
 ·have h3':(3000:Int)<(s.size:Int):=ab;have HE:=O (show mq s.data.toList=.error 4 by unfold mq;rw[aA (by simpa using h3)]);go_enter func76,ntmps76;go_wp2;go_ret2;exact n9.bad HE.o (ae _ _) (Or.inl rfl)
 ·have h3':¬(3000:Int)<(s.size:Int):=ab;have hm:s.size<=maxLen:=ft;have HC:=O (show mq s.data.toList=jW (s.data.toList.length+1) [] s.data.toList by unfold mq;rw[ar (by simpa using h3)]);go_enter func76,ntmps76;go_wp2_with fail
  refine(Tx s w).mono ?_;rintro e w1⟨rfl,oq⟩;have pk:dw w1 w.heap.size s 0:=by rw[oq];exact aC _ _
  have BQ:w1.heap.size=w.heap.size+1:=by rw[oq];simp
  have dn:Fr aS w w1:=by rw[oq];exact(ae _ _).alloc _
  clear oq;obtain⟨w2,eA⟩:∃w2,w2=w1.alloc (.cells #[.pointer (some ⟨w.heap.size,0,none⟩),.string s,.slice none 0 0] 205):=⟨_,rfl⟩;have ob:iB w2 (w.heap.size+1) w.heap.size s (.slice none 0 0):=by rw[eA, <-BQ];exact aC _ _
  have yW:Fr aS w1 w2:=by rw[eA];exact(ae _ _).alloc _
  have se:=pk.fr yW id;have fY:=O (dn.trans yW);have nD:=O eA;clear eA dn yW pk;go_wp2_with fail
  rw[<-nD.o];refine(CZ _ _ 0 s _ w2 ob se hm (aQ _)).mono ?_;rintro e w3⟨rfl,tZ,il⟩;have Nn:cM oa s.data.toList 0<=s.size:=by simpa using gZ (p:=oa) (l:=s.data.toList) (i:=0) (aQ _)
  have HGD:=O (show s.data.toList.drop (cM oa s.data.toList 0)=iz s.data.toList by rw[jV,eE];rfl);generalize cM oa s.data.toList 0=j0 at *
  have rq:=ob.one se il;have iq:=O (fY.o.xG il (ay _));have Xv:=O (show mq s.data.toList=jW ((s.data.toList.drop j0).length+1) [] (s.data.toList.drop j0)by
   rw[HC.o,Bm _ _ (show iz s.data.toList=iz (s.data.toList.drop j0)by rw[HGD.o,si])];exact pY _ _ _ (by rw[HGD.o];have:=oA s.data.toList;omega))
  have Vm:=O (show iz (s.data.toList.drop j0)=s.data.toList.drop j0 by rw[HGD.o,si]);clear il ob se BQ nD;go_wp2;go_loopw[] (aii s w) (fun wr=>s.size-pq wr w.heap.size)
  case atStart=>exact⟨[],_,j0,Nn,rq,tZ,lf.nil _ _,iq.o,aR,Vm.o,Xv.o⟩
  case round =>
   obtain⟨acc,v,j,hj,vn,tW,O5,cL,hl8,hgj,xh⟩:=hrel;have EO:=O xh;have HGJ:=O hgj;clear xh hgj Xv Vm HGD rq tZ;have pU:=O tW.pos;have q0:=vn.cell0;have l_:=O (La acc (s.data.toList.drop j));rw[HGJ.o]at l_;go_wp2_with fail
   refine(wB _ s j wr tW).mono ?_;rintro e w5⟨rfl,n5,rfl⟩;by_cases Au:s.size<=j
   ·have hd:decide (s.size<=j)=true:=bL Au;have HE:=O (show mq s.data.toList=.ok acc by
     rw[EO.o,l_.o,cP (by simpa using Au)];rfl)
    have q2:=vn.lO;rw[hd];go_wp2;go_ret2;exact n9.ok HE.o (cL.drewN _) (O5.fr ((ae aS wr).drewN n5) (Ie.none _))
   ·have hd:decide (s.size<=j)=false:=bD Au;rw[hd];have hne:(s.data.toList.drop j).isEmpty=false:=by
     cases e:s.data.toList.drop j with
     |nil =>
      have:=aq List.length e;simp at this;omega
     |cons a l=>rfl
    rw[hne]at l_;have Bu:=vn.drewN (n:=n5);have tX:=tW.drewN n5;have hv5:=O5.fr ((ae aS wr).drewN n5) (Ie.none _);have ye:=cL.drewN n5;have hbw:w.heap.size<=(wr.drewN n5).heap.size:=ye.size;generalize wr.drewN n5=w5 at *
    go_wp2_with fail
    refine(Zp w.heap.size _ _ j s acc v w5 Bu tX hv5 hbw ab hj hl8).mono ?_;intro e w6 hp;obtain⟨nz,hm6⟩:=hp;have Uu:∀k,v.ownBlock=some k->w.heap.size<=k:=by
     obtain⟨rs,h1,_⟩:=hv5;exact h1.block
    have yy:=O (show Fr aS w w6 from ye.step nz (fun k hk hh=>by
     rcases hh with hh|hh|hh
     ·omega
     ·omega
     ·have:=Uu k hh;omega))
    cases ho:o7 acc.length (s.data.toList.drop j)with
    |error n =>
     rw[ho]at hm6;obtain⟨p,g,rfl,hg⟩:=hm6;have HE:=O (show mq s.data.toList=.error n by rw[EO.o,l_.o,ho];rfl);clear ho;go_wp2;go_ret2;exact n9.bad HE.o yy.o (Or.inr ⟨g,p,rfl,hg⟩)
    |ok q =>
     obtain⟨x,z⟩:=q;rw[ho]at hm6;obtain⟨rfl,j1,v',hj1,Mr,hd6,Ja,hv6⟩:=hm6;simp only at hd6 hv6;have hole:=Cg ho;have hk8:=(Pf ho).2;have hjj:j<j1:=by
      have e1:z.length=s.size-j1:=by rw[<-hd6];simp
      have e2:(s.data.toList.drop j).length=s.size-j:=aR;omega
     have SL:=O (show mq s.data.toList=jW (z.length+1) (acc++[x]) z by rw[EO.o,l_.o,ho];rfl);clear ho hole;go_wp2_with fail
     refine(CZ _ _ j1 s v' w6 Ja Mr hm hj1).mono ?_;rintro e w7⟨rfl,Yz,og⟩;have anZ:cM oa s.data.toList j1<=s.size:=by simpa using gZ (p:=oa) (l:=s.data.toList) (i:=j1) (by simpa using hj1)
     have Xs:j1<=cM oa s.data.toList j1:=lA;have HG7:=O (show s.data.toList.drop (cM oa s.data.toList j1)=iz z by rw[jV,hd6];rfl);generalize cM oa s.data.toList j1=j2 at *
     have SS:=Ja.one Mr og;have hv7:=hv6.fr og (Ie.cur Mr);have Jb:=O (yy.o.xG og (ay _));have HS7:=O (show mq s.data.toList=jW ((s.data.toList.drop j2).length+1) (acc++[x]) (s.data.toList.drop j2)by
      rw[SL.o,Bm _ _ (show iz z=iz (s.data.toList.drop j2)by rw[HG7.o,si])];exact pY _ _ _ (by rw[HG7.o];have:=oA z;omega))
     have HGG:=O (show iz (s.data.toList.drop j2)=s.data.toList.drop j2 by rw[HG7.o,si]);go_wp2;go_roundw
     case rel=>exact⟨acc++[x],v',j2,anZ,SS,Yz,hv7,Jb.o,bH,HGG.o,HS7.o⟩
     case measure=>rw[pU.o,Yz.pos];omega
open Go.ChangeShapes Go.WideShapes Go.ChangeAt Go.RowKit Go.Deep
variable {H : Type} {enc : TypeId × Value → H} {W : World}
theorem GK:prog.cellsOf 26=5:=af
theorem GL:prog.cellsOf 29=13:=af
theorem OC:prog.cellsOf 27=1:=af
theorem ap6{α:Type}{l:List α}(h:l.length=5):∃a b c d e,l=[a,b,c,d,e]:=by
 match l,h with
 |[a,b,c,d,e],_=>exact⟨a,b,c,d,e,rfl⟩
theorem aj9{α:Type}{l:List α}(h:l.length=13):∃a b c d e f g i j k m n o,l=[a,b,c,d,e,f,g,i,j,k,m,n,o]:=by
 match l,h with
 |[a,b,c,d,e,f,g,i,j,k,m,n,o],_=>exact⟨a,b,c,d,e,f,g,i,j,k,m,n,o,rfl⟩
theorem WN{fuel:Nat}{cs:aX}{x:DataW H×List MemPlace}(h:DataW.trod enc prog W 0 (fun _=>true) true fuel 26 cs=some x) :
  ∃(o:gq) (pa qu:aj),cs=o.cells++[.string pa,.string qu]/\(Lit.int .i64 o.port).wf=true/\(oV prog 26 x.1->o.LY/\pa.size<=reachBytes/\qu.size<=reachBytes):=by
 obtain⟨hl,n,hf⟩:=nS underlying26 h;rw[GK]at hl;obtain⟨c0,c1,c2,c3,c4,rfl⟩:=ap6 hl;obtain⟨y0,h0,l0⟩:=hf 0 24 0 _ rfl Bd;obtain⟨y1,h1,l1⟩:=hf 1 9 3 _ rfl iJ;obtain⟨y2,h2,l2⟩:=hf 2 9 4 _ rfl iJ;simp only[List.drop,List.take]at h0 h1 h2;obtain⟨o,e0,w0,s0⟩:=LZ h0;obtain⟨b1,e1,w1⟩:=fo underlying9 h1;obtain⟨b2,e2,w2⟩:=fo underlying9 h2;unfold gq.cells at e0;simp only[fD,iE]at e0 e1 e2
 obtain⟨rfl,rfl,rfl⟩:=e0;subst e1 e2;exact⟨o,b1,b2,rfl,w0,fun hL=>⟨s0 (l0 hL),w1 (l1 hL),w2 (l2 hL)⟩⟩
def ap7:ef:=⟨⟨false,.empty,0⟩,⟨false,.empty,0⟩,.empty,.empty,false,.empty,.empty,0⟩
instance:Inhabited ef:=⟨ap7⟩
def n_(r:gl Value)(hs:List gY):Bool:=Mf hs&&decide ((r.method.size:Int)+(r.path.size:Int)+(r.query.size:Int)+(r.o.host.size:Int)+(r.cW.host.size:Int)<=600)
theorem IY(r:gl Value)(hs:List gY)(w:World)(hr:oD w r.en hs)(hl:hs.length<=140737488355328)(hzs:∀p∈hs,p.1.size<=140737488351232/\p.2.size<=140737488351232)(hz:r.LY) :
  aB 27 #[.agg r.cells.toArray] w fun e w'=>e=.returned (.bool (n_ r hs))/\Fr aS w w':=by
 obtain⟨z1,z2,z3,z4,z5⟩:=hz;obtain⟨wb,jQ⟩:∃wb,wb=w.alloc (.cells r.cells.toArray 29):=⟨_,rfl⟩;have kf:Fr aS w wb:=by rw[jQ];exact(ae aS w).alloc _
 have lW:wb.heap[w.heap.size]?=some (.cells r.cells.toArray 29 (0,0)):=by rw[jQ];exact aC _ _
 obtain⟨ah,ch,gD⟩:=dI hr;rw[ai]at gD;have ux:r.cells=[.int .i64 r.part,.bool r.cW.aE,.string r.cW.host,.int .i64 r.cW.port,.bool r.o.aE,.string r.o.host,.int .i64 r.o.port,.string r.path,.string r.query,.string r.method,.slice ah hs.length ch,.bool r.fN,.string r.body]:=by unfold gl.cells;rw[gD]
 have HC:=O (show∀U,Fr aS wb U->U.cell? ⟨w.heap.size,2,none⟩=some (.string r.cW.host)/\U.cell? ⟨w.heap.size,5,none⟩=some (.string r.o.host)/\U.cell? ⟨w.heap.size,7,none⟩=some (.string r.path)/\U.cell? ⟨w.heap.size,8,none⟩=some (.string r.query)/\U.cell? ⟨w.heap.size,9,none⟩=some (.string r.method)/\U.cell? ⟨w.heap.size,10,none⟩=some (.slice ah hs.length ch)from fun U hU=>by
  have j:=hU.keep lW id;rw[ux]at j;simp[World.cell?,j])
 have rC:=O (aaE (.slice ah hs.length ch) hs wb (by rw[<-gD];exact bh hr kf) hl hzs);rw[ux]at jQ ⊢;have mh:=O kf;have qL:=O jQ;obtain⟨k2,k5,k7,k8,k9,k10⟩:=HC.o wb (ae _ _);rw[jQ]at k10;clear hr hl hzs kf lW gD ux jQ k2 k5 k7 k8 k9;cases BZ:Mf hs
 ·have HR:=O (show n_ r hs=false by unfold n_;rw[BZ];rfl);rw[BZ]at rC;clear BZ;go_enter func27,ntmps27;go_wp2_with fail
  rw[<-qL.o];refine rC.o.mono ?_;rintro e u⟨rfl,hf⟩;go_wp2;go_ret;exact⟨by rw[HR.o];rfl,mh.o.trans hf⟩
 ·have HR:=O (show n_ r hs=decide ((r.method.size:Int)+(r.path.size:Int)+(r.query.size:Int)+(r.o.host.size:Int)+(r.cW.host.size:Int)<=600)by unfold n_;rw[BZ];rfl);rw[BZ]at rC;clear BZ;go_enter func27,ntmps27;go_wp2_with fail
  rw[<-qL.o];refine rC.o.mono ?_;rintro e u⟨rfl,hf⟩;obtain⟨k2,k5,k7,k8,k9,_⟩:=HC.o u hf;go_wp2;go_ret;exact⟨by rw[HR.o];rfl,mh.o.trans hf⟩
