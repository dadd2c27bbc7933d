/- Lemmas for the law's walk. -/
import Derived.Test.YtnckmcnffadjoaaGreatDoorPm10
set_option maxRecDepth 100000
set_option maxHeartbeats 16000000
set_option linter.unusedSimpArgs false
namespace Go.Proofs.YtnckmcnffadjoaaGreatDoor
open Go.Proofs.Tryz
open Go.RowKit
variable {base c i b n:Nat} {w w':World} {v:Value} {xs:List nt} {s:aj} {ps:List jz}
abbrev Lu:=aj×aj×Value
def Bd(r:Lu):aX:=[.string r.1,.string r.2.1,r.2.2]
theorem VC{r:Lu}(h:r.2.2.oneCell'=true):∀u∈Bd r,u.oneCell'=true:=by
 intro u hu;simp only[Bd,bB,cz,dX]at hu;rcases hu with rfl|rfl|rfl
 ·rfl
 ·rfl
 ·exact h
def VD(base:Nat)(w:World)(r:Lu)(x:nt):Prop:=r.1=bA x.scheme/\r.2.1=bA x.token/\OwnRows base 171 2 w r.2.2 (x.params.map ou)
def lq(base:Nat)(w:World)(v:Value)(xs:List nt):Prop:=∃rs:List Lu,OwnRows base 198 3 w v (rs.map Bd)/\lg (VD base w) rs xs
theorem lq.nil(base:Nat)(w:World):lq base w (.slice none 0 0) []:=⟨[],dy _ _ _ _,.nil⟩
theorem lq.form(h:lq base w v xs):∃a c,v=.slice a xs.length c:=by
 obtain⟨rs,h1,h2⟩:=h;obtain⟨a,c,e⟩:=h1.form;exact⟨a,c,by rw[e,ai,h2.len]⟩
def IC(w:World)(S:dC):Prop:=∀k,S k->k<w.heap.size->∃cs t f,w.heap[k]?=some (.cells cs t f)/\t≠171/\t≠198
theorem IC.none(w:World):IC w aS:=fun _ h=>absurd h id
theorem IC.cur(h:dx w c s i):IC w (one c):=fun k hk _=>by
 obtain rfl:k=c:=hk;exact⟨_,_,_,h,ag,ag⟩
theorem lq.fr{S:dC}(h:lq base w v xs)(hf:Fr S w w')(hS:IC w S):lq base w' v xs:=by
 obtain⟨rs,h1,h2⟩:=h;have key:∀ {k:Nat} {e:TypeId} {u:Value} {ys:cZ},(e=171\/e=198)->OwnRows base e k w u ys->OwnRows base e k w' u ys:=by
  intro k e u ys he ho;refine ho.fr hf (fun b hb hs=>?_);obtain⟨cur,hc⟩:=ho.BM hb;obtain⟨cs,t,f,X_,n1,n2⟩:=hS b hs (bj hc);rw[hc]at X_;cases X_;rcases he with rfl|rfl
  ·exact n1 rfl
  ·exact n2 rfl
 exact⟨rs,key (Or.inr rfl) h1,h2.mono (fun r x hr=>⟨hr.1,hr.2.1,key (Or.inl rfl) hr.2.2⟩)⟩
def aiF(c b:Nat)(v:Value):dC:=fun k=>k=c\/k=b\/v.ownBlock=some k
def sQ(base c b i:Nat)(s:aj)(xs:List nt)(v:Value)(w:World)(e:Ending)(w':World):Prop :=
 Fr (aiF c b v) w w'/\match pk xs.length (s.data.toList.drop i)with
  | .error n=>∃p,xt n p e w'
  | .ok q=>e=.returned .nilIface/\∃j v',j<=s.size/\dx w' c s j/\s.data.toList.drop j=q.2/\iJ w' b c s v'/\lq base w' v' (xs++[q.1])
theorem sQ.bad{p:Nat}{e:Ending}(h:pk xs.length (s.data.toList.drop i)=.error n)(hf:Fr (one c) w w')(he:xt n p e w'):sQ base c b i s xs v w e w':=by
 refine⟨hf.mono (fun k _ e=>Or.inl e),?_⟩;rw[h];exact⟨p,he⟩
def aei(c b X i n:Nat)(s:aj)(v:Value)(W:Bs)(w wx:World):Prop :=
 ∃tok ps pv j,j<=s.size/\dx wx c s j/\iJ wx b c s v/\kK wx X (bA W) (bA tok) pv/\OwnRows w.heap.size 171 2 wx pv (ps.map ou)/\Fr (one c) w wx /\
  pk n (s.data.toList.drop i)=.ok (⟨W,tok,ps⟩,s.data.toList.drop j)
def aiG(c b X K:Nat)(s:aj)(v:Value)(W:Bs)(w:World)(t:Value)(wr:World):Prop :=
 ∃mb ps pv j,t=.bool mb/\j<=s.size/\dx wr c s j/\iJ wr b c s v/\kK wr X (bA W) ⟨#[]⟩ pv/\OwnRows w.heap.size 171 2 wr pv (ps.map ou)/\Fr (one c) w wr/\ps.length<=16/\(∀p∈ps,p.1.length<100000) /\
  gU ((s.data.toList.drop K).length+1) [] (s.data.toList.drop K)=(if mb then gU ((s.data.toList.drop j).length+1) ps (s.data.toList.drop j)else .ok (ps,s.data.toList.drop j))
theorem ID(ps:List jz)(r:Bs):gU (r.length+1) ps r=match ld ps r with
  | .error e=>.error e
  | .ok q=>if n_ q.2 then(if lI (iH q.2)then gU ((iH q.2).length+1) (ps++[q.1]) (iH q.2)else .ok (ps++[q.1],iH q.2))else .error 3:=by
 rw[gU];cases hp:ld ps r with
 |error e=>rfl
 |ok q =>
  obtain⟨p,r1⟩:=q;simp only;have h1:=tN hp;have h2:=oI r1;rw[um r.length _ _ ab]
theorem VE:(prog.info? 198).map (fun i=>(i.zero,i.size,i.bytes))=some (some (.agg #[.string ⟨#[]⟩,.string ⟨#[]⟩,.slice none 0 0]),3,56):=af
theorem OwnRows.ZW{k:Nat}{e:TypeId}{xs:cZ}(h:OwnRows base e k w v xs):v.oneCell'=true:=by
 obtain⟨a,c,e⟩:=h.form;rw[e];rfl
theorem N1(s:aj)(k:Nat):decide (k<cM dN s.data.toList k)=pJ (s.data.toList.drop k):=by
 rcases fH k s.data.toList.length with h|h
 ·rw[cU h];show _=dN s.data.toList[k];cases hb:dN s.data.toList[k]
  ·rw[lG (fun c hc=>by rw[List.getElem?_eq_getElem h]at hc;cases hc;exact hb)];simp
  ·rw[oG (List.getElem?_eq_getElem h) hb];have:=lH (p:=dN) (l:=s.data.toList) (i:=k+1);exact bM ab
 ·rw[cQ h,lG (fun c hc=>by rw[List.getElem?_eq_none h]at hc;cases hc)];simp[pJ]
theorem VF(s:aj)(k:Nat):n_ (s.data.toList.drop k)=n_ (s.data.toList.drop (eL s k)):=by rw[oM,Hl]
theorem ZX(s:aj)(k:Nat):eL s (eL s k)=eL s k:=FJ _ _ _
theorem ZY(base b c i:Nat)(s:aj)(xs:List nt)(v:Value)(w:World)(hr:iJ w b c s v)(h:dx w c s i)(hv:lq base w v xs)(hb:base<=w.heap.size)
  (hs:s.size<100000)(hi:i<=s.size)(hl:xs.length<=8) :
  aB 113 #[.pointer (some ⟨b,0,none⟩)] w (sQ base c b i s xs v w):=by
 have hm:s.size<=maxLen:=fx;have hbc:=hr.ne h;have q0:=hr.cell0;have hw:=Hz hi;have HWD:=O (vO s i);have QZ:=(show pk xs.length (s.data.toList.drop i)=if(ia (s.data.toList.drop i)).isEmpty then .error 3
  else if xs.length=8 then .error 4
  else if n_ (iB (s.data.toList.drop i))then .ok (⟨ia (s.data.toList.drop i),[],[]⟩,eX (iB (s.data.toList.drop i)))
  else if !pJ (iB (s.data.toList.drop i))then .error 3
  else match singleR (eX (iB (s.data.toList.drop i)))with
   |some q=>.ok (⟨ia (s.data.toList.drop i),q.1,[]⟩,q.2)
   |none=>match gU ((eX (iB (s.data.toList.drop i))).length+1) [] (eX (iB (s.data.toList.drop i)))with
    | .error e=>.error e
    | .ok q=>.ok (⟨ia (s.data.toList.drop i),[],q.1⟩,q.2)from rfl)
 rw[<-vO]at QZ;have EO:(ia (s.data.toList.drop i)).length<=s.size:=by
  have:=rk (s.data.toList.drop i);simp at this;omega
 have Ju:=O QZ;clear QZ;go_enter func113,ntmps113;go_wp2_with fail
 refine(AG c s i w h).mono ?_;rintro e w0⟨rfl,rfl⟩;go_wp2_with fail
 refine(vB c s i w h hm hi).mono ?_;rintro e w1⟨rfl,pA,dr⟩;replace pA:dx w1 c s (Jr s i):=pA;rw[show s.extract i (cM fW s.data.toList i)=bA (ia (s.data.toList.drop i))from zj s i];generalize ia (s.data.toList.drop i)=W at *
 generalize Jr s i=K1 at *
 obtain⟨wx,NZ⟩:∃wx,wx=w1.alloc (.cells #[.string (bA W),.string ⟨#[]⟩,.slice none 0 0] 198):=⟨_,rfl⟩;have dB:Fr aS w1 wx:=by rw[NZ];exact(ae _ _).alloc _
 have hX:kK wx w1.heap.size (bA W) ⟨#[]⟩ (.slice none 0 0):=by rw[NZ];exact aC _ _
 have hXw:w.heap.size<=w1.heap.size:=dr.size;have yI:=hr.one h dr;have ot:=yI.fr dB id;have sr:=pA.fr dB id;have f_:=O (dr.trans dB.nj);have TA:=O NZ;have HXS:=O (show wx.heap.size=w1.heap.size+1 by rw[NZ];simp);have q1a:∀o:Obj,(w1.alloc o).cell? ⟨b,0,none⟩=some (.pointer (some ⟨c,0,none⟩)):=fun o=>(yI.fr ((ae aS w1).alloc o) id).cell0
 have q1b:∀o:Obj,(w1.alloc o).cell? ⟨b,2,none⟩=some v:=fun o=>(yI.fr ((ae aS w1).alloc o) id).lT;obtain⟨av,cv,hvv⟩:=hv.form;rw[hvv]at q1b;generalize hXe:w1.heap.size=X at *
 clear NZ q0 dr;cases PJ:W.isEmpty
 case true =>
  have Dj:(bA W).toList=[]:=by rw[mQ];exact gF.1 PJ
  have Ay:((bA W).toList== [])=true:=dW.2 Dj;have HE:=O (show pk xs.length (s.data.toList.drop i)=.error 3 by rw[Ju.o,az PJ]);go_wp2_with fail
  rw[<-TA.o];refine(tQ b c K1 3 s v wx ot sr).mono ?_;rintro e w4⟨⟨g,rfl,hg⟩,kQ⟩;go_wp2;go_ret;exact sQ.bad HE.o (f_.o.trans kQ.nj) ⟨g,rfl,hg⟩
 case false =>
  have Dj:¬(bA W).toList=[]:=by rw[mQ];intro e;rw[e]at PJ;cases PJ
  have Ay:((bA W).toList== [])=false:=aL.2 Dj;by_cases h8:xs.length=8
  ·have h8':((xs.length:Int)==8)=true:=by rw[h8];rfl
   have HE:=O (show pk xs.length (s.data.toList.drop i)=.error 4 by rw[Ju.o,aq (by rw[PJ];simp),az h8]);clear h8;go_wp2;go_ret;rw[<-TA.o];exact sQ.bad HE.o (f_.o.alloc _) ⟨X+1,rfl,by rw[<-HXS.o];exact aC wx _⟩
  ·have h8':((xs.length:Int)==8)=false:=aL.2 ab;have RG:=O (show pk xs.length (s.data.toList.drop i)=if n_ (s.data.toList.drop K1)then .ok (⟨W,[],[]⟩,eX (s.data.toList.drop K1))
    else if !pJ (s.data.toList.drop K1)then .error 3
    else match singleR (eX (s.data.toList.drop K1))with
     |some q=>.ok (⟨W,q.1,[]⟩,q.2)
     |none=>match gU ((eX (s.data.toList.drop K1)).length+1) [] (eX (s.data.toList.drop K1))with
      | .error e=>.error e
      | .ok q=>.ok (⟨W,[],q.1⟩,q.2)by rw[Ju.o,aq (by rw[PJ];simp),aq h8])
   clear Ju PJ;go_wp2_with fail
   rw[<-TA.o];refine(mB c s K1 wx sr hm hw).mono ?_;rintro e w3⟨rfl,uj,iz⟩;replace uj:dx w3 c s (eL s K1):=uj;have HBH:=O (show decide (K1<cM dN s.data.toList K1)=pJ (s.data.toList.drop K1)from N1 s K1);rw[HBH.o];have rZ:=xY hw;have CB:=O (oM s K1);rw[<-oM,VF]at RG;have pY:=O (ZX s K1);generalize eL s K1=K2 at *
   have rF:=ot.one sr iz;have D':=hX.fr iz (fun e=>hX.ne sr e);have iA:=O (f_.o.trans iz);clear yI ot pA sr hX dB iz q1a q1b Dj Ay h8' HBH CB
   go_upto_block 0 with fail
   go_cut [5,6,7,8]from 39 to 69 (fun _ _ _ _ wz=>aei c b X i xs.length s v W w wz)
   case first =>
    have hXX:=D'.ne uj;have hXb:=D'.neR rF;go_wp2_with fail
    refine(Dg b c K2 s v w3 rF uj hm rZ).mono ?_;rintro e w4⟨rfl,ug,kQ⟩;rw[pY.o]at ug;have vA:=rF.one uj kQ;have ZZ:=D'.fr kQ hXX;have jZ:=O (iA.o.trans kQ);clear rF D' uj kQ;cases hov:n_ (s.data.toList.drop K2)
    case true =>
     have HE:=O (show pk xs.length (s.data.toList.drop i)=.ok (⟨W,[],[]⟩,s.data.toList.drop K2)by rw[RG.o,az hov]);go_wp2_with fail
     go_meet
     exact⟨[],[],_,K2,rZ,ug,vA,ZZ,dy _ _ _ _,jZ.o,HE.o⟩
    case false =>
     cases hbh:pJ (s.data.toList.drop K1)
     case false =>
      have HE:=O (show pk xs.length (s.data.toList.drop i)=.error 3 by rw[RG.o,aq (by rw[hov];simp),az (by rw[hbh];rfl)]);go_wp2_with fail
      refine(tQ b c K2 3 s v w4 vA ug).mono ?_;rintro e w5⟨⟨g,rfl,hg⟩,lQ⟩;go_wp2;go_ret;exact sQ.bad HE.o (jZ.o.trans lQ.nj) ⟨g,rfl,hg⟩
     case true =>
      have aek:=O (show pk xs.length (s.data.toList.drop i)=match singleR (s.data.toList.drop K2)with
       |some q=>.ok (⟨W,q.1,[]⟩,q.2)
       |none=>match gU ((s.data.toList.drop K2).length+1) [] (s.data.toList.drop K2)with
        | .error e=>.error e
        | .ok q=>.ok (⟨W,[],q.1⟩,q.2)by rw[RG.o,aq (by rw[hov];simp),aq (by rw[hbh];simp)])
      clear RG;go_wp2_with fail
      refine(Nk b c K2 s v w4 vA ug hs rZ).mono ?_;intro e w5 qx;obtain⟨lQ,pj⟩:=qx;have BN:=vA.one ug lQ;have hX5:=ZZ.fr lQ hXX;have xn:=O (jZ.o.trans lQ);have x1:=hX5.h_;have xf1:=hX5.free 1;have HS:=O (show∀u:Value,Fr (one X) w5 (w5.setCell ⟨X,1,none⟩ u)from fun u=>(ae (one X) w5).setCell (p:=⟨X,1,none⟩) (fun _=>rfl) u)
      have yH:=O (show∀u:Value,Fr (one c) w (w5.setCell ⟨X,1,none⟩ u)from fun u=>xn.o.step (HS.o u) (fun k hk e=>by have e':k=X:=e;omega));clear lQ;cases hsr:singleR (s.data.toList.drop K2)with
      |some q =>
       obtain⟨tk,z⟩:=q;rw[hsr]at pj;obtain⟨rfl,j,hj,uh,hd5⟩:=pj;have HE:=O (show pk xs.length (s.data.toList.drop i)=.ok (⟨W,tk,[]⟩,s.data.toList.drop j)by rw[aek.o,hsr,hd5]);have hX6:kK (w5.setCell ⟨X,1,none⟩ (.string (bA tk))) X (bA W) (bA tk) (.slice none 0 0):=cg hX5 1 _;have Js:=BN.fr (HS.o (.string (bA tk))) (fun e=>hXb (show b=X from e).symm)
       have MO:=uh.fr (HS.o (.string (bA tk))) (fun e=>hXX (show c=X from e).symm);clear hd5;go_wp2_with fail
       go_meet
       exact⟨tk,[],_,j,hj,MO,Js,hX6,dy _ _ _ _,yH.o _,HE.o⟩
      |none =>
       rw[hsr]at pj;obtain⟨rfl,uh⟩:=pj;have HPN:=O (show pk xs.length (s.data.toList.drop i)=match gU ((s.data.toList.drop K2).length+1) [] (s.data.toList.drop K2)with
        | .error e=>.error e
        | .ok q=>.ok (⟨W,[],q.1⟩,q.2)by rw[aek.o,hsr])
       have hX6:kK (w5.setCell ⟨X,1,none⟩ (.string ⟨#[]⟩)) X (bA W) ⟨#[]⟩ (.slice none 0 0):=cg hX5 1 _;have Js:=BN.fr (HS.o (.string ⟨#[]⟩)) (fun e=>hXb (show b=X from e).symm);have MO:=uh.fr (HS.o (.string ⟨#[]⟩)) (fun e=>hXX (show c=X from e).symm);have Jt:=O (yH.o (.string ⟨#[]⟩));clear aek;go_wp2_with fail
       clear x1 xf1;generalize w5.setCell ⟨X,1,none⟩ (.string ⟨#[]⟩)=w7 at *
       go_loopw[7] (aiG c b X K2 s v W w) (fun t wr=>match t with| .bool true=>s.size-pD wr c+1|_=>0)
       case atStart=>exact⟨true,[],_,K2,rfl,rZ,MO,Js,hX6,dy _ _ _ _,Jt.o,aR,aR,rfl⟩
       case round =>
        obtain⟨mb,ps,pv,j,rfl,hj,hc8,Ut,hX8,Tm,cL,aoA,hpz,hpn⟩:=hrel;have Z0:=O hpn;clear hpn;cases mb
        case false =>
         have HE:=O (show pk xs.length (s.data.toList.drop i)=.ok (⟨W,[],ps⟩,s.data.toList.drop j)by rw[HPN.o,Z0.o];rfl);go_wp2_with fail
         go_meet
         exact⟨[],ps,pv,j,hj,hc8,Ut,hX8,Tm,cL,HE.o⟩
        case true =>
         have mj:=O (ID ps (s.data.toList.drop j));have p_:=O hc8.pos;have hwr:w.heap.size<=wr.heap.size:=cL.size;go_wp2_with fail
         refine(QY w.heap.size b c X j s v ps (bA W) ⟨#[]⟩ pv wr Ut hc8 hX8 Tm hwr hs hj aoA hpz).mono ?_;intro e w9 hpp;obtain⟨Ts,hpm⟩:=hpp;have hXc:=hX8.ne hc8;have X':=hX8.neR Ut;have hbo:pv.ownBlock≠some b:=Tm.not Ut ag;have hr9:=Ut.fr Ts (fun hh=>by
          rcases hh with hh|hh|hh
          ·exact hbc hh
          ·exact X' hh.symm
          ·exact hbo hh)
         have XU:=O (show Fr (one c) w w9 from cL.step Ts (fun k hk hh=>by
          rcases hh with hh|hh|hh
          ·exact hh
          ·omega
          ·have:=Tm.block k hh;omega))
         clear Ts cL Tm hX8 Ut;cases yK:ld ps (s.data.toList.drop j)with
         |error n =>
          rw[yK]at hpm;obtain⟨pl,g,rfl,hg⟩:=hpm;have HE:=O (show pk xs.length (s.data.toList.drop i)=.error n by
           rw[HPN.o,Z0.o,az True.intro,mj.o,yK])
          clear yK;go_wp2_with fail
          go_ret;exact sQ.bad HE.o XU.o ⟨g,rfl,hg⟩
         |ok q =>
          obtain⟨p,z⟩:=q;rw[yK]at hpm;obtain⟨rfl,j1,yJ,hj1,hc9,hd9,hX9,Y7⟩:=hpm;simp only at hd9 Y7;have hle:=tN yK;rw[yK]at mj;have arN:=(FZ yK).2.2;have Co:(s.data.toList.drop j).length<=s.size:=aR;have hjj:j<j1:=by
           have e1:z.length=s.size-j1:=by rw[<-hd9];simp
           have e2:(s.data.toList.drop j).length=s.size-j:=aR;omega
          have YL:=O (show p.1.length<100000 from ab);clear yK hle Co;go_wp2_with fail
          refine(Dg b c j1 s v w9 hr9 hc9 hm hj1).mono ?_;rintro e w10⟨rfl,VG,Nn⟩;have Z1:=hr9.one hc9 Nn;have aiI:=hX9.fr Nn hXc;have aem:=Y7.fr Nn (fun k hk e=>by
           obtain rfl:k=c:=e;exact Y7.not hc9 ag hk)
          have aiJ:=O (XU.o.trans Nn);have hbj:=xY (s:=s) hj1;have hbd:=O (oM s j1);rw[hd9]at hbd ⊢;clear Nn hr9 hX9 Y7 hc9;cases hov:n_ z
          case false =>
           have HE:=O (show pk xs.length (s.data.toList.drop i)=.error 3 by
            rw[HPN.o,Z0.o,az True.intro,mj.o];simp only[hov,cJ,eW])
           go_wp2_with fail
           refine(tQ b c _ 3 s v w10 Z1 VG).mono ?_;rintro e w11⟨⟨g,rfl,hg⟩,Fp⟩;go_wp2;go_ret;exact sQ.bad HE.o (aiJ.o.trans Fp.nj) ⟨g,rfl,hg⟩
          case true =>
           go_wp2_with fail
           refine(Df b c _ s v w10 Z1 VG hm hbj).mono ?_;rintro e w11⟨rfl,Z2,Fp⟩;have HGD:=O (show s.data.toList.drop (cM oq s.data.toList (eL s j1))=iH z by
            rw[ke,hbd.o];exact uo z)
           have NJ:cM oq s.data.toList (eL s j1)<=s.size:=by simpa using ib (p:=oq) (l:=s.data.toList) (i:=eL s j1) (by simpa using hbj)
           have XX:j1<=cM oq s.data.toList (eL s j1):=aG (lH (p:=dN) (l:=s.data.toList) (i:=j1)) lH;generalize cM oq s.data.toList (eL s j1)=j2 at *
           have aeo:=Z1.one VG Fp;have aiK:=aiI.fr Fp hXc;have aep:=aem.fr Fp (fun k hk e=>by
            obtain rfl:k=c:=e;exact aem.not VG ag hk)
           have aoC:=O (aiJ.o.trans Fp);clear Fp Z1 aiI aem VG;go_wp2_with fail
           refine(Nj b c j2 s v w11 aeo Z2 hm NJ).mono ?_;rintro e w12⟨rfl,aeq,ze⟩;rw[HGD.o];have aiL:=aeo.one Z2 ze;have aiM:=aiK.fr ze hXc;have aiN:=aep.fr ze (fun k hk e=>by
            obtain rfl:k=c:=e;exact aep.not Z2 ag hk)
           have aiO:=O (aoC.o.trans ze);have MT:=O (show gU ((s.data.toList.drop K2).length+1) [] (s.data.toList.drop K2)=(if lI (iH z)then gU ((s.data.toList.drop j2).length+1) (ps++[p]) (s.data.toList.drop j2)else .ok (ps++[p],s.data.toList.drop j2))by
            rw[Z0.o,az True.intro,mj.o];simp only[hov,ef];rw[HGD.o])
           have aiP:(ps++[p]).length<=16:=bI;have aiQ:∀q∈ps++[p],q.1.length<100000:=by
            intro q hq;rcases bR.1 hq with g|g
            ·exact hpz q g
            ·simp at g;subst g;exact YL.o
           clear ze aeo aiK aep Z2 hov hd9;cases X1:lI (iH z)
           ·rw[X1]at MT;go_wp2;go_roundw
            case rel=>exact⟨false,ps++[p],yJ,j2,rfl,NJ,aeq,aiL,aiM,aiN,aiO.o,aiP,aiQ,MT.o⟩
            case measure=>simp
           ·rw[X1]at MT;go_wp2;go_roundw
            case rel=>exact⟨true,ps++[p],yJ,j2,rfl,NJ,aeq,aiL,aiM,aiN,aiO.o,aiP,aiQ,MT.o⟩
            case measure=>simp only;rw[p_.o,aeq.pos];omega
   case rest =>
   obtain⟨tok,ps,pv,j,hj,ug,vA,ZZ,Tj,kQ,hE⟩:=hcut;have HE:=O hE;clear hE RG uj rF D';have hXc:=ZZ.ne ug;have hXb:=ZZ.neR vA;have Pq:=hv.fr kQ (IC.cur h);obtain⟨rs,ho,xy⟩:=Pq;have ve:=xy.len;subst hvv;have Ia:(Value.slice av xs.length cv).ownBlock≠some c:=ho.not ug ag;have hob:(Value.slice av xs.length cv).ownBlock≠some b:=ho.not vA ag;have hpc:pv.ownBlock≠some c:=Tj.not ug ag
   have X2:pv.ownBlock≠some b:=Tj.not vA ag;have cR:wc.ownsRow base 198 3 (.slice av xs.length cv) xs.length (rs.map Bd).flatten:=by
    have hh:=ho.2;rw[ai,ve]at hh;exact hh
   have xr:c<wc.heap.size:=ug.lt;have hbl:b<wc.heap.size:=vA.lt;have hXl:X<wc.heap.size:=ZZ.lt;have iE:base<=wc.heap.size:=aG hb kQ.size;have r2:=vA.lT;have rf2:=vA.free 2;have x0:=ZZ.cell0;have x1:=ZZ.h_;have x2:=ZZ.lT;have hpo:pv.oneCell'=true:=Tj.ZW;obtain⟨i0,qA,po,k_,lp⟩:=info_parts VE;have xc:=O (VC (r:=(bA W,bA tok,pv)) hpo);have HO:=O ho;have HB:=O xy;have HP4:=O Tj;have h8l:xs.length<8:=ab
   clear hv ho xy Tj;go_wp2_with fail
   go_region_law ((with_reducible refine mP ⟨some 77,_,_,_,_,_⟩ ?_)
                  refine step_append_lies _ bC _ _ _ bC base 198 i0 _ 3 56 underlying123 qA po k_ lp rfl ab (.slice av xs.length cv) xs.length _ bC (by repeat(first|exact cR|apply World.ownsRow.alloc|apply World.ownsRow.drew)) ⟨wc.heap.size,0,none⟩ 1 1 (Bd (bA W,bA tok,pv)) bC bC (kR wc (Bd (bA W,bA tok,pv)) _) xc.o ab fx ab bI (wc.heap.size+1) aR ?_
                  intro gg cap w5 vQ jC Ux adp
                  have q_:Fr (fun k=>(Value.slice av xs.length cv).ownBlock=some k) wc w5:=fq (by repeat(first|exact ae _ _|apply aA|apply bz)) jC (fun _ hk _=>hk)
                  have k4:w5.cell? ⟨b,2,none⟩=some (.slice av xs.length cv):=(q_.cell (p:=⟨b,2,none⟩) hbl hob).trans r2
                  have e4:w5.frozen? ⟨b,2,none⟩=false:=(q_.frozen (p:=⟨b,2,none⟩) hbl hob).trans rf2)
   all_goals
    have BN:iJ w5 b c s (.slice av xs.length cv):=vA.fr q_ hob;have uh:dx w5 c s j:=ug.fr q_ Ia;have ks:Fr (one b) w5 (w5.setCell ⟨b,2,none⟩ (.slice (some ⟨gg,0,none⟩) (xs.length+1) cap)):=(ae (one b) w5).setCell (p:=⟨b,2,none⟩) (fun _=>rfl) _;have Js:iJ (w5.setCell ⟨b,2,none⟩ (.slice (some ⟨gg,0,none⟩) (xs.length+1) cap)) b c s (.slice (some ⟨gg,0,none⟩) (xs.length+1) cap):=cg BN 2 _
    have MO:=uh.fr ks (fun e=>hbc (show c=b from e).symm);have hgb:gg≠b:=by
     rintro rfl;rcases Ux with e|e
     ·exact hob e
     ·omega
    have hel:∀(u:Value) (qs:List jz),OwnRows base 171 2 wc u (qs.map ou)->OwnRows base 171 2 (w5.setCell ⟨b,2,none⟩ (.slice (some ⟨gg,0,none⟩) (xs.length+1) cap)) u (qs.map ou):=by
     intro u qs hu;have h1:OwnRows base 171 2 w5 u (qs.map ou):=hu.fr q_ (fun k hk rZ=>by
      obtain⟨cur,hcu⟩:=hu.BM hk;obtain⟨avq,aiR⟩:=HO.o.BM rZ;rw[hcu]at aiR;simp at aiR)
     exact h1.fr ks (fun k hk e=>by
      obtain rfl:k=b:=e;exact h1.not BN ag hk)
    have MN:OwnRows base 198 3 w5 (.slice (some ⟨gg,0,none⟩) (xs.length+1) cap) ((rs++[(bA W,bA tok,pv)]).map Bd):=by
     refine⟨?_,?_⟩
     ·intro y hy;rw[bG]at hy;rcases bR.1 hy with g|g
      ·exact HO.o.1 y g
      ·simp at g;subst g;exact⟨rfl,xc.o⟩
     ·have e1:((rs++[(bA W,bA tok,pv)]).map Bd).length=xs.length+1:=by simp[ve]
      have e2:((rs++[(bA W,bA tok,pv)]).map Bd).flatten=(rs.map Bd).flatten++Bd (bA W,bA tok,pv):=aR;rw[e1,e2];exact vQ
    have zm:=MN.fr ks (fun k hk e=>hgb (by
     simp only[Value.ownBlock,ez]at hk;rw[hk];exact e))
    have hcs:lq base (w5.setCell ⟨b,2,none⟩ (.slice (some ⟨gg,0,none⟩) (xs.length+1) cap)) (.slice (some ⟨gg,0,none⟩) (xs.length+1) cap) (xs++[⟨W,tok,ps⟩]) :=
     ⟨_,zm,(HB.o.mono (fun r x hr=>⟨hr.1,hr.2.1,hel _ _ hr.2.2⟩)).app (.cons ⟨rfl,rfl,hel _ _ (HP4.o.up hb)⟩ .nil)⟩
    have Q2:=O (show Fr (aiF c b (.slice av xs.length cv)) w (w5.setCell ⟨b,2,none⟩ (.slice (some ⟨gg,0,none⟩) (xs.length+1) cap))from
     ((kQ.mono (fun k _ e=>Or.inl e)).trans (q_.mono (fun k _ e=>Or.inr (Or.inr e)))).trans (ks.mono (fun k _ e=>Or.inr (Or.inl e))))
    clear k4 e4 jC vQ cR q_ hel;go_wp2;go_ret;refine⟨Q2.o,?_⟩;rw[HE.o];exact⟨rfl,j,_,hj,MO,rfl,Js,hcs⟩
def rT(part:Int)(method:aj)(hs:List ig):Bool:=decide (0<=part)&&(decide (part<4)&&(AH method.data.toList&&(decide (hs.length<=40)&&hs.all fun p=>AH p.1.data.toList)))
def aiW(hs:List ig)(w1:World)(i:Value)(wr:World):Prop :=
 ∃k:Nat,k<=hs.length/\i=.int .i64 k/\(hs.take k).all (fun p=>AH p.1.data.toList)=true/\Fr aS w1 wr
theorem N5(r:gu Value)(hs:List ig)(w:World)(hr:oL w r.ey hs)(hz:Gz r hs) :
  aB 45 #[.agg r.cells.toArray] w fun e w'=>e=.returned (.bool (rT r.part r.method hs))/\Fr aS w w':=by
 have gK:=O (show rT r.part r.method hs=(decide (0<=r.part)&&(decide (r.part<4)&&(AH r.method.data.toList&&(decide (hs.length<=40)&&hs.all fun p=>AH p.1.data.toList))))from rfl);generalize rT r.part r.method hs=res at gK ⊢;obtain⟨wb,j6⟩:∃wb,wb=w.alloc (.cells r.cells.toArray 37):=⟨_,rfl⟩;have ks:Fr aS w wb:=by rw[j6];exact(ae aS w).alloc _
 have mf:wb.heap[w.heap.size]?=some (.cells r.cells.toArray 37 (0,0)):=by rw[j6];exact aC _ _
 obtain⟨ah,ch,gH⟩:=dK hr;rw[ai]at gH;have uH:r.cells=[.int .i64 r.part,.bool r.cX.aE,.string r.cX.host,.int .i64 r.cX.port,.bool r.o.aE,.string r.o.host,.int .i64 r.o.port,.string r.path,.string r.query,.string r.method,.slice ah hs.length ch,.bool r.fN,.string r.body]:=by unfold gu.cells;rw[gH]
 have c0:wb.cell? ⟨w.heap.size,0,none⟩=some (.int .i64 r.part):=by simp only[World.cell?,mf];rw[uH];rfl
 have c9:wb.cell? ⟨w.heap.size,9,none⟩=some (.string r.method):=by simp only[World.cell?,mf];rw[uH];rfl
 have GA:wb.cell? ⟨w.heap.size,10,none⟩=some (.slice ah hs.length ch):=by simp only[World.cell?,mf];rw[uH];rfl
 have hh:=bh hr ks;rw[gH]at hh;obtain⟨k_,lp,Up⟩:=hz;have hlen:(hs.length:Int)<100000:=ab;have IS:=O (show∀U,aB 91 #[.string r.method] U fun e w'=>e=.returned (.bool (AH r.method.data.toList))/\U=w' from fun U=>CT r.method U ab);have HH:=O hh;have HZ:=O Up;have mr:=O ks;rw[uH]at j6 ⊢;have qV:=O j6;rw[j6]at c0 c9 GA;clear hr ks mf gH uH hh Up j6;by_cases h0:r.part<0
 ·have HR:=O (show res=false by rw[gK.o,bD ab];rfl);clear gK;go_enter func45,ntmps45;go_wp2;go_ret;exact⟨by rw[HR.o];rfl,by rw[<-qV.o];exact mr.o⟩
 by_cases h4:r.part>=4
 ·have HR:=O (show res=false by rw[gK.o,bD (show¬r.part<4 from ab),kA,Bool.and_false]);clear gK;go_enter func45,ntmps45;go_wp2;go_ret;exact⟨by rw[HR.o];rfl,by rw[<-qV.o];exact mr.o⟩
 have GH:=O (show res=(AH r.method.data.toList&&(decide (hs.length<=40)&&hs.all fun p=>AH p.1.data.toList))by rw[gK.o,bM (show 0<=r.part from ab),bM (show r.part<4 from ab)];rfl);clear gK;go_enter func45,ntmps45;go_wp2_with fail
 refine(IS.o _).mono ?_;rintro e w2⟨rfl,rfl⟩;cases him:AH r.method.data.toList
 ·have HR:=O (show res=false by rw[GH.o,him];rfl);clear GH;go_wp2;go_ret;exact⟨by rw[HR.o];rfl,by rw[<-qV.o];exact mr.o⟩
 by_cases Hi:(hs.length:Int)>40
 ·have HR:=O (show res=false by rw[GH.o,him,bD (show¬hs.length<=40 from ab)];rfl);clear GH;go_wp2;go_ret;exact⟨by rw[HR.o];rfl,by rw[<-qV.o];exact mr.o⟩
 have NY:=O (show res=hs.all (fun p=>AH p.1.data.toList)by rw[GH.o,him,bM (show hs.length<=40 from ab)];rfl);clear GH him k_ lp h0 h4 hlen;go_wp2;rw[<-qV.o];go_loopw[28] (aiW hs wb) (fun i _=>hs.length-(intOf i).toNat)
 case atStart=>exact⟨0,aQ _,rfl,rfl,ae _ _⟩
 case round =>
  obtain⟨k,hk,rfl,iX,cL⟩:=hrel;have AL:=O iX;clear iX;by_cases fo:k<hs.length
  ·have pq:(k:Int)<(hs.length:Int):=ab;rcases(bh HH.o cL).2 with ⟨_,_,_,e,_⟩|⟨bk,o,c,hf,h1,h2,h3,h4c⟩
   ·have e2:=ar List.length e;rw[ai]at e2;have e3:hs.length=0:=e2;omega
   ·rw[ai]at hf h1;cases hf;unfold maxLen at h2;have dT:=O (List.getElem?_eq_getElem fo);have hc:=h4c k _ (by rw[List.getElem?_map,dT.o];rfl);have hd0:=hc 0 _ rfl;have yS:=hc 1 _ rfl;simp only[Nat.add_zero]at hd0;have Up:(hs[k]).1.size<100000:=(HZ.o _ (bN fo)).1;generalize hs[k]=x at dT hd0 yS Up
    have IS2:=O (show∀U,aB 91 #[.string x.1] U fun e w'=>e=.returned (.bool (AH x.1.data.toList))/\U=w' from fun U=>CT x.1 U ab);have CH:=O (cL.alloc (.cells #[.string x.1,.string x.2] 171));clear h4c hc;go_wp2_with fail
    refine(IS2.o _).mono ?_;rintro e w3⟨rfl,rfl⟩;cases hx:AH x.1.data.toList
    ·have HR:=O (show res=false by rw[NY.o];exact yo dT.o hx);clear hx;go_wp2;go_ret;exact⟨by rw[HR.o];rfl,mr.o.trans CH.o⟩
    ·have hn:=O (uG dT.o AL.o hx);clear hx;go_wp2;go_roundw
     case rel=>exact⟨k+1,ab,bg,hn.o,CH.o⟩
     case measure=>simp[intOf];omega
  ·have pq:¬(k:Int)<(hs.length:Int):=ab;have HR:=O (show res=true by rw[NY.o];have h:=AL.o;rwa [aD ab]at h);go_wp2;go_ret;exact⟨by rw[HR.o];rfl,mr.o.trans cL⟩
theorem RU(p q:eo)(w:World):(binOp .eql 155 (.agg p.cells.toArray) (.agg q.cells.toArray)).run prog w=.ok (.bool (p.lj q)) w:=by
 obtain⟨⟨a,b,c⟩,⟨d,e,f⟩,g,i,j,k,l,m⟩:=p;obtain⟨⟨a',b',c'⟩,⟨d',e',f'⟩,g',i',j',k',l',m'⟩:=q;unfold eo.cells;go_simp;simp only[show∀(P:Prop) [Decidable P] (W:World) (b:Bool),(if P then(Result.ok (Value.bool b) W:Result Value)else .ok (.bool false) W)=.ok (.bool (decide P&&b)) W from fun P _ W b=>by by_cases h:P<;>simp[h]]
 congr 2
 rw[fc];simp only[eo.lj,gA.lj,cF,dG,dW,and_assoc,iM]
def uN(w:World)(b o:Nat)(p:eo):Prop :=
 w.cell? ⟨b,o,none⟩=some (.bool p.cX.aE)/\w.cell? ⟨b,o+1,none⟩=some (.string p.cX.host)/\w.cell? ⟨b,o+2,none⟩=some (.int .i64 p.cX.port)/\w.cell? ⟨b,o+3,none⟩=some (.bool p.o.aE)/\w.cell? ⟨b,o+4,none⟩=some (.string p.o.host)/\w.cell? ⟨b,o+5,none⟩=some (.int .i64 p.o.port)/\w.cell? ⟨b,o+6,none⟩=some (.string p.path)/\w.cell? ⟨b,o+7,none⟩=some (.string p.query)/\w.cell? ⟨b,o+8,none⟩=some (.bool p.fN)/\w.cell? ⟨b,o+9,none⟩=some (.string p.method)/\w.cell? ⟨b,o+10,none⟩=some (.string p.head)/\w.cell? ⟨b,o+11,none⟩=some (.int .i64 p.pT)
theorem uN.of{o:Nat}{p:eo}(h:∀(i:Nat) u,p.cells[i]?=some u->w.cell? ⟨b,o+i,none⟩=some u):uN w b o p :=
 ⟨h 0 _ rfl,h 1 _ rfl,h 2 _ rfl,h 3 _ rfl,h 4 _ rfl,h 5 _ rfl,h 6 _ rfl,h 7 _ rfl,h 8 _ rfl,h 9 _ rfl,h 10 _ rfl,h 11 _ rfl⟩
theorem uN.eL{p:eo}(h:w.heap[b]?=some (.cells p.cells.toArray 155 (0,0))):uN w b 0 p :=
 uN.of fun i u hu=>by simp only[World.cell?,h];simpa using hu
theorem qN.lie{a:eV}{ps:List eo}(h:qN w (.slice a n c) ps)(hne:ps≠ []) :
  ∃bk of,a=some ⟨bk,of,none⟩/\n=ps.length/\n<=c/\n<=maxLen/\bk<w.heap.size/\∀(j:Nat) q,ps[j]?=some q->uN w bk (of+j*12) q:=by
 rcases h.2 with ⟨_,_,_,e,_⟩|⟨bk,of,c',hf,g1,g2,g3,g4⟩
 ·exact absurd (by simpa using e) hne
 ·cases hf;rw[ai]at g1;exact⟨bk,of,rfl,aR,by simpa using g1,by rw[ai];have h1:ps.length<=c:=g1;exact aG h1 g2,g3,fun j q hq=>uN.of (g4 j q.cells (by rw[List.getElem?_map,hq];rfl))⟩
def ai1(w:World)(n:Nat)(f:Nat->Bool)(i:Value)(wr:World):Prop:=∃k:Nat,k<=n/\i=.int .i64 k/\f k=true/\Fr aS w wr
theorem VT(v:Value)(ps:List eo)(p:eo)(w:World)(h:qN w v ps) :
  aB 197 #[v,.agg p.cells.toArray] w fun e w'=>e=.returned (.int .i64 (lU (fun q=>p.lj q) ps 0))/\Fr aS w w':=by
 obtain⟨av,cv,hv⟩:=dK h;subst hv;rw[ai]at h ⊢;have HQ:=O (RU p);obtain⟨w1,oy⟩:∃w1,w1=w.alloc (.cells p.cells.toArray 155):=⟨_,rfl⟩;have dr:Fr aS w w1:=by rw[oy];exact(ae _ _).alloc _
 have mf:w1.heap[w.heap.size]?=some (.cells p.cells.toArray 155 (0,0)):=by rw[oy];exact aC _ _
 have HP:=O (show∀U,Fr aS w1 U->uN U w.heap.size 0 p from fun U hU=>uN.eL (hU.keep mf id));have HL:=O (show∀U,Fr aS w1 U->qN U (.slice av ps.length cv) ps from fun U hU=>bh h (dr.trans hU));have lC:=O dr;have Ii:=O oy;clear h dr mf;unfold eo.cells at oy HQ ⊢;go_enter func197,ntmps197;go_wp2;rw[<-oy];clear oy
 go_loopw[8] (ai1 w1 ps.length (fun k=>!(ps.take k).any (fun q=>p.lj q))) (fun i _=>ps.length-(intOf i).toNat)
 case atStart=>exact⟨0,aQ _,rfl,rfl,ae _ _⟩
 case round =>
  obtain⟨k,hk,rfl,hn,cL⟩:=hrel;have HN:=O (show(ps.take k).any (fun q=>p.lj q)=false by simpa using hn);clear hn;by_cases fo:k<ps.length
  ·have pq:(k:Int)<(ps.length:Int):=ab;have N7:(0:Int)<=(k:Int):=ab;obtain⟨bk,of,rfl,g1,g2,g3,g4,g5⟩:=qN.lie (HL.o wr cL) (by intro e;rw[e]at fo;cases fo);unfold maxLen at g3;have dT:=O (List.getElem?_eq_getElem fo);generalize ps[k]=q at dT;obtain⟨c0,c1,c2,c3,c4,c5,c6,c7,c8,c9,GA,TB⟩:=g5 k q dT.o;obtain⟨d0,d1,d2,d3,d4,d5,d6,d7,d8,d9,d10,d11⟩:=HP.o wr cL
   simp only[bw]at d0 d1 d2 d3 d4 d5 d6 d7 d8 d9 d10 d11;have heq:=HQ.o q;unfold eo.cells at heq;have hfd:=cL.drewN;clear g1 g5;cases he:p.lj q
   ·have qe:=O (any_take_succ dT.o HN.o he);rw[he]at heq;clear he;go_wp2;go_quiet (fail);go_wp2;go_roundw
    case rel=>exact⟨k+1,ab,bg,by show(!(ps.take (k+1)).any (fun q=>p.lj q))=true;rw[qe.o];rfl,cL.drewN _⟩
    case measure=>simp[intOf];omega
   ·have fg:=O (oT (i:=0) dT.o he HN.o);rw[he]at heq;clear he;go_wp2;go_quiet (fail);go_wp2;go_ret;rw[fg.o,bw];exact⟨rfl,lC.o.trans (cL.drewN _)⟩
  ·have pq:¬(k:Int)<(ps.length:Int):=ab;have fg:=O (show lU (fun q=>p.lj q) ps 0= -1 from kt (by have h:=HN.o;rw[aD ab]at h;exact h));go_wp2;go_ret;rw[fg.o];exact⟨rfl,lC.o.trans cL⟩
theorem LC(v:Value)(ps:List eo)(p:eo)(w:World)(h:qN w v ps) :
  aB 134 #[v,.agg p.cells.toArray] w fun e w'=>e=.returned (.bool (ps.any (fun q=>p.lj q)))/\Fr aS w w':=by
 have hb:=O (rL (fun q=>p.lj q) ps 0);have dr:Fr aS w (w.alloc (.cells p.cells.toArray 155)):=(ae _ _).alloc _;have mf:(w.alloc (.cells p.cells.toArray 155)).heap[w.heap.size]?=some (.cells p.cells.toArray 155 (0,0)):=aC _ _;have HC:=O (VT v ps p _ (bh h dr));obtain⟨av,cv,hv⟩:=dK h;subst hv;rw[ai]at HC ⊢;have lC:=O dr;have G:=O mf;clear h dr mf;unfold eo.cells at *
 go_enter func134,ntmps134;go_wp2_with (first|((with_reducible refine di 6 ?_);refine aH rfl 155 (.tmp 3) rfl w.heap.size rfl _ _ (0,0) _ G.o underlying155 rfl af ?_)|fail)
 refine HC.o.mono ?_;rintro e w2⟨rfl,dB⟩;go_wp2;go_ret;exact⟨fB hb.o,lC.o.trans dB⟩
def Bg(w:World)(b:Nat)(r:gu Value):Prop :=
 w.cell? ⟨b,0,none⟩=some (.int .i64 r.part)/\w.cell? ⟨b,1,none⟩=some (.bool r.cX.aE)/\w.cell? ⟨b,2,none⟩=some (.string r.cX.host)/\w.cell? ⟨b,3,none⟩=some (.int .i64 r.cX.port)/\w.cell? ⟨b,4,none⟩=some (.bool r.o.aE)/\w.cell? ⟨b,5,none⟩=some (.string r.o.host)/\w.cell? ⟨b,6,none⟩=some (.int .i64 r.o.port)/\w.cell? ⟨b,7,none⟩=some (.string r.path)/\w.cell? ⟨b,8,none⟩=some (.string r.query)/\w.cell? ⟨b,9,none⟩=some (.string r.method)/\w.cell? ⟨b,10,none⟩=some r.ey/\w.cell? ⟨b,11,none⟩=some (.bool r.fN)/\w.cell? ⟨b,12,none⟩=some (.string r.body)
theorem Bg.eL{r:gu Value}(h:w.heap[b]?=some (.cells r.cells.toArray 37 (0,0))):Bg w b r:=by
 have hc:∀i u,r.cells[i]?=some u->w.cell? ⟨b,i,none⟩=some u:=fun i u hu=>by simp only[World.cell?,h];simpa using hu
 exact⟨hc 0 _ rfl,hc 1 _ rfl,hc 2 _ rfl,hc 3 _ rfl,hc 4 _ rfl,hc 5 _ rfl,hc 6 _ rfl,hc 7 _ rfl,hc 8 _ rfl,hc 9 _ rfl,hc 10 _ rfl,hc 11 _ rfl,hc 12 _ rfl⟩
theorem Sp(ps:List eo)(p:eo):(qj ps p).length<=ps.length+1:=by
 unfold qj;split
 ·omega
 ·simp
theorem yA:∀(l ps:List eo),(l.foldl qj ps).length<=ps.length+l.length
 |[],ps=>aR
 |p :: l,ps=>by
  rw[List.foldl_cons];have h1:=yA l (qj ps p);have h2:=Sp ps p;rw[List.length_cons];omega
theorem Et{n:Bs}{l:List Bs}(h:lf ps n=some l):l.length<=40:=by
 unfold lf at h;split at h
 ·cases h
 ·split at h
  ·cases h
  ·cases h;omega
theorem Sq{r:qY}{t:Bs}{now:Int}{m:List eo}(h:uw r t ps now=.ok m):m.length<=81:=by
 unfold uw at h;cases e1:lf ps Km with
 |none=>rw[e1]at h;cases h
 |some ms =>
  cases e2:lf ps xX with
  |none=>rw[e1,e2]at h;cases h
  |some hs =>
   rw[e1,e2]at h;simp only at h;split at h
   ·cases h
   ·split at h
    ·cases h
    ·cases h;have h1:=Et e1;have h2:=Et e2;unfold qY.bH;refine aG (yA _ _) ?_;rw[ai];have h3:=yA ((r.methods ms).map fun m=>r.Da (now+ni ps) m (bA [])) [];rw[ai]at h3;have h4:(r.methods ms).length<=40:=by
      unfold qY.methods;split
      ·simp
      ·rw[ai];exact h1
     simp only[List.length_nil,bw]at h3;omega
def gu.Mo{D:Type}(r:gu D):Prop:=r.method.size<=140737488351232/\r.path.size<=140737488351232/\r.query.size<=140737488351232/\r.o.host.size<=140737488351232/\r.cX.host.size<=140737488351232
theorem F9:∀(l:List (jz×Bs)) (p:jz×Bs),xo (l++[p])=xo l++((if l.isEmpty then []else [44,32])++QS p.1 p.2)
 |[],p=>rfl
 |[a],p=>by simp[xo]
 |a :: b :: l,p=>by
  have ih:=F9 (b :: l) p;simp only[List.cons_append,xo]at ih ⊢;rw[ih];simp
abbrev Item:=Bs×Bs×Bool
def Item.par(i:Item):jz×Bs:=((i.1,i.2.1),AP i.2.2 i.2.1)
def Ig(l:List (jz×Bs)):Bs:=adi++32 :: xo l
def vR(l:List Item):Bs:=Ig (l.map Item.par)
def ya(l:List Item):Bool:=l.any fun i=>AQ i.2.2 i.2.1
theorem Q5(p:jz×Bs)(l:List (jz×Bs)):0<(xo (p :: l)).length:=by
 cases l with
 |nil=>simp[xo,QS];omega
 |cons q l=>simp[xo,QS];omega
theorem Ky(l:List Item)(nm v:Bs)(q:Bool):qB (vR l) nm (AP q v)=vR (l++[(nm,v,q)]):=by
 unfold qB vR;rw[bG];show _=Ig (l.map Item.par++[((nm,v),AP q v)]);unfold Ig;rw[F9];cases l with
 |nil=>rfl
 |cons a l =>
  have h:=Q5 a.par (l.map Item.par);rw[az (by simp[adi]at h ⊢; omega)];simp[QS]
theorem Q7(l:List Item)(nm v:Bs)(q:Bool):(ya l||AQ q v)=ya (l++[(nm,v,q)]):=by unfold ya;simp
theorem UA(q:Bool)(v:Bs):(AP q v).length<=2*v.length+2:=by
 have:=Kw v;unfold AP;split
 ·split
  ·exact this
  ·simp
 ·omega
theorem UB(l nm x:Bs):(qB l nm x).length<=l.length+nm.length+x.length+3:=by
 unfold qB;split<;>simp<;>omega
def vS(user aK bq uri QT name:Bs):List Item:=[(PB,user,true),(vF,aK,true),(vG,bq,true),(YW,uri,true),(PC,QT,true),(yX,name,false)]
def Dp(eH count:Bs):List Item:=if eH.isEmpty then []else [(J8,eH,false),(nNc,count,false)]
def UC(eH:Bs)(cA:Bool)(bL:Bs):List Item:=if !eH.isEmpty||cA then [(Cz,bL,true)]else []
def Dq(cy:Bs):List Item:=if cy.isEmpty then []else [(mi,cy,true)]
def i_.items(d:i_):List Item:=vS d.user d.aK d.bq d.uri d.QT (px d.scheme d.cA)++(Dp d.eH d.count++(UC d.eH d.cA d.bL++Dq d.cy))
theorem i_.Zb{d:i_}(h:ya d.items=false):d.fair=true:=by
 unfold i_.items vS Dp UC Dq ya at h;unfold i_.fair;simp only[List.any_append,List.any_cons,List.any_nil,Bool.or_false,eM,AQ,Bool.true_and,kA,Bool.not_eq_false']at h;obtain⟨⟨h1,h2,h3,h4,h5⟩,_,h6,h7⟩:=h;rw[h1,h2,h3,h4,h5];simp only[Bool.true_and];have g6:(!(!d.eH.isEmpty||d.cA)||n9 d.bL)=true:=by
  cases hc:(!d.eH.isEmpty||d.cA)
  ·rfl
  ·rw[hc]at h6;simpa[AQ]using h6
 have g7:(d.cy.isEmpty||n9 d.cy)=true:=by
  cases hc:d.cy.isEmpty
  ·rw[hc]at h7;simpa[AQ]using h7
  ·rfl
 rw[g6,g7];rfl
theorem i_.Zc(d:i_):ya d.items=!d.fair:=by
 unfold i_.items vS Dp UC Dq ya i_.fair;cases d.eH.isEmpty<;>cases d.cA<;>cases d.cy.isEmpty<;>simp[AQ]
theorem Dr{n v:Bs}(h:n9 v=true):Item.par (n,v,true)=qP n v:=by unfold Item.par qP AP;simp[h]
theorem aho(n v:Bs):Item.par (n,v,false)=pP n v:=rfl
theorem i_.Zd{d:i_}(h:d.fair=true):vR d.items=d.text:=by
 unfold i_.fair at h;simp only[cF]at h;obtain⟨f1,f2,f3,f4,f5,f6,f7⟩:=h;unfold vR Ig i_.text
 congr 2
 have e1:(vS d.user d.aK d.bq d.uri d.QT (px d.scheme d.cA)).map Item.par=d.head:=by
  unfold vS i_.head;simp only[cE,dt,Dr f1,Dr f2,Dr f3,Dr f4,Dr f5,aho]
 have e2:(Dp d.eH d.count).map Item.par=d.two:=by
  unfold Dp i_.two;split<;>rfl
 have e3:(UC d.eH d.cA d.bL).map Item.par=d.cn:=by
  unfold UC i_.cn;cases hc:(!d.eH.isEmpty||d.cA)
  ·rfl
  ·rw[hc]at f6;simp only[ef,cE,dt,Dr (show n9 d.bL=true by simpa using f6)]
 have e4:(Dq d.cy).map Item.par=d.op:=by
  unfold Dq i_.op;cases hc:d.cy.isEmpty
  ·rw[hc]at f7;simp only[cJ,eW,cE,dt,Dr (show n9 d.cy=true by simpa using f7)]
  ·rfl
 unfold i_.items i_.zg;rw[bG,bG,bG,e1,e2,e3,e4]
theorem Kz(fQ:Int)(aK bq cy eH:aj)(cA cN:Bool)(dom:Value)(w:World) :
  aB 103 #[.agg #[.int .i64 fQ,.string aK,.string bq,.string cy,.bool cA,.string eH,.bool cN,dom]] w fun e w'=>e=.returned (.string (bA (px fQ cA)))/\Fr aS w w':=by
 by_cases h3:fQ=3
 ·cases cA with
  |false =>
   have E:bA (px fQ false)=⟨#[83,72,65,45,50,53,54]⟩:=by unfold px;rw[az h3];rfl
   have HE:=O E;clear E;go_enter func103,ntmps103;go_wp2;go_ret;exact⟨by rw[HE.o];rfl,(ae aS w).alloc _⟩
  |true =>
   have E:bA (px fQ true)=⟨#[83,72,65,45,50,53,54,45,115,101,115,115]⟩:=by unfold px;rw[az h3];rfl
   have HE:=O E;clear E;go_enter func103,ntmps103;go_wp2;go_ret;exact⟨by rw[HE.o];rfl,(ae aS w).alloc _⟩
 ·cases cA with
  |false =>
   have E:bA (px fQ false)=⟨#[77,68,53]⟩:=by unfold px;rw[aq h3];rfl
   have HE:=O E;clear E;go_enter func103,ntmps103;go_wp2;go_ret;exact⟨by rw[HE.o];rfl,(ae aS w).alloc _⟩
  |true =>
   have E:bA (px fQ true)=⟨#[77,68,53,45,115,101,115,115]⟩:=by unfold px;rw[aq h3];rfl
   have HE:=O E;clear E;go_enter func103,ntmps103;go_wp2;go_ret;exact⟨by rw[HE.o];rfl,(ae aS w).alloc _⟩
abbrev jN := @i_.Zc
abbrev jO := @i_.Zb
abbrev jP := @i_.Zd
theorem Gs:(prog.info? 133).map (fun i=>(i.zero,i.size,i.bytes))=some (some (.agg v_),13,168):=af
def ad_(base:Nat)(w:World)(b:Nat)(o:Nat)(g:bJ bE):Prop :=
 ∃r:bJ Value,(∀u∈r.cells,u.oneCell'=true)/\r.Reads (dv base w) g/\∀(i:Nat) u,r.cells[i]?=some u->w.cell? ⟨b,o+i,none⟩=some u
theorem ki.at{base:Nat}{w:World}{v:Value}{gs:List (bJ bE)}(h:ki base w v gs){k:Nat}(hk:k<gs.length) :
  ∃b c,v=.slice (some ⟨b,0,none⟩) gs.length c/\gs.length<=maxLen/\ad_ base w b (k*13) gs[k]:=by
 obtain⟨rs,h1,h2⟩:=h;have hl:=h2.len;obtain⟨x,hx⟩:∃x,rs[k]?=some x:=⟨_,List.getElem?_eq_getElem ab⟩;obtain⟨g,hg,hr⟩:=h2.get hx;rw[List.getElem?_eq_getElem hk]at hg;obtain rfl:=j8 hg;have dT:=h1.at;rcases h1.2.2 with ⟨_,hn⟩|⟨bk,cap,cur,hv,_⟩
 ·rw[ai]at hn;omega
 rcases dT.2 with ⟨_,_,e1,e,_⟩|⟨Jy,o,c,se,q1,q2,q3,q4⟩
 ·simp at e;rw[e]at hl;simp at hl;omega
 ·rw[hv]at se;cases se;rw[ai]at q1;refine⟨bk,cap,by rw[hv,ai,hl],ab,x,(h1.1 x.cells (b_.2 ⟨x,cq hx,rfl⟩)).2,hr,?_⟩;intro i u hu;have:=q4 k x.cells (by rw[List.getElem?_map,hx];rfl) i u hu;rw[bw]at this;exact this
def Vn(base:Nat)(w:World)(gs:List (bJ bE))(v:Value)(w':World):Prop:=ki base w' v gs/\∀k,v.ownBlock=some k->w.heap.size<=k
def Gt(base:Nat)(w:World)(gs:List (bJ bE))(e:Ending)(w':World):Prop :=
 ∃v,e=.returned v/\Vn base w gs v w'/\Fr aS w w'
def aip(base:Nat)(w:World)(gs:List (bJ bE))(v i:Value)(wr:World):Prop :=
 ∃(k:Nat) (rs:List (bJ Value)),k<=gs.length/\i=.int .i64 k/\OwnRows w.heap.size 133 13 wr v (rs.map bJ.cells)/\lg (bJ.Reads (dv base wr)) rs (gs.take k)/\Fr aS w wr
def bJ.mT(r:bJ Value)(d:Value):bJ Value:={r with a:={r.a with dom:=d}}
theorem Gu(base:Nat)(w:World)(b:Nat)(gv wv:Value)(gs:List (aP bE))(ws:List (bJ bE))(h:dE base w b gv wv gs ws)(NJ:ws.length<68719476736) :
  aB 147 #[.pointer (some ⟨b,0,none⟩)] w (Gt base w ws):=by
 have h0:=h.c1;obtain⟨av,cv,hv⟩:=h.waits.form;subst hv;have uf:=h.lt;have iE:base<=w.heap.size:=by have:=h.low;omega
 go_enter func147,ntmps147;go_wp2;clear h0;go_loopw[3,11] (aip base w ws) (fun _ i _=>ws.length-(intOf i).toNat)
 case atStart=>exact⟨0,[],aQ _,rfl,dy _ _ _ _,.nil,ae _ _⟩
 case round =>
  obtain⟨k,rs,hk,rfl,cR,vY,cL⟩:=hrel;by_cases fo:k<ws.length
  ·obtain⟨bk,c,dr,sN,r,eb,hr,hcell⟩:=(h.dm cL).waits.at fo;cases dr;unfold maxLen at sN;obtain⟨ad,cd,xx⟩:=hr.2.2.2.2.2.2.2.2.2.2.rd.form;obtain⟨x,hx⟩:∃x,x=r.cells:=⟨_,rfl⟩;have lB:x.length=13:=by rw[hx];rfl
   have ir:=fun W=>run_storeCells_new (P:=prog) W 133 v_ x (by rw[lB];rfl) (by rw[hx];exact eb);rw[<-hx]at hcell;have HX:=O hx;have Iq:=O (A1 lB);have aea:x[12]?=some (.slice ad ws[k].a.dom.length cd):=by rw[hx, <-xx];rfl
   clear hx;obtain⟨av,cv,Va⟩:=cR.form;subst Va;rw[ai,vY.len,aM,dP hk]at cR ⊢;have gS:Fr aS wr (wr.alloc (.cells x.toArray 133)):=(ae aS wr).alloc _;have Jv:(wr.alloc (.cells x.toArray 133)).heap[wr.heap.size]?=some (.cells x.toArray 133 (0,0)):=aC _ _
   have c12:(wr.alloc (.cells x.toArray 133)).cell? ⟨wr.heap.size,12,none⟩=some (.slice ad ws[k].a.dom.length cd):=by simp only[World.cell?,Jv];simpa using aea
   have ot:=hr.mono (fun _ _ h=>h.dm gS);have xB:=ot.2.2.2.2.2.2.2.2.2.2;rw[xx]at xB;have CL:=O (rN base _ _ _ xB);go_wp2_with (first|((with_reducible refine di 14 ?_);refine a_ rfl 133 (.tmp 13) rfl bk (k*13) rfl x _ hcell underlying133 rfl Iq.o ?_)|fail)
   have r_:=O (cL.trans gS);have fC:=cR.alloc (.cells x.toArray 133);have DS:=vY.mono (fun _ _ h=>h.mono (fun _ _ h=>h.dm gS));have j6:w.heap.size<=wr.heap.size:=cL.size;have aom:=cR.lt;clear ir hcell hr cR vY cL xB gS;generalize wr.alloc (.cells x.toArray 133)=W2 at *
   refine CL.o.mono ?_;rintro e u1⟨a2,c2,rfl,Cf,dr⟩;have qf:=dr.keep Jv id;have rF:=ot.mono (fun _ _ h=>h.dm dr);have fu:=fC.fr dr (fun _ _ h=>h);have DT:=DS.mono (fun _ _ h=>h.mono (fun _ _ h=>h.dm dr));have Rw:=r_.o.trans dr;have aiq:u1.cell? ⟨wr.heap.size,12,none⟩=some (.slice ad ws[k].a.dom.length cd):=by simp only[World.cell?,qf];simpa using aea
   have f12:u1.frozen? ⟨wr.heap.size,12,none⟩=false:=by simp[World.frozen?,qf]
   have kB:=cg qf 12 (.slice a2 ws[k].a.dom.length c2);have hye:x.toArray.setIfInBounds 12 (.slice a2 ws[k].a.dom.length c2)=(r.mT (.slice a2 ws[k].a.dom.length c2)).cells.toArray:=by rw[HX.o];rfl
   rw[hye]at kB;have rO:rY base u1 (one wr.heap.size):=by
    rintro j rfl hj;exact⟨ab,fun c f e=>by rw[qf]at e;cases e⟩
   have kH:Fr (one wr.heap.size) u1 (u1.setCell ⟨wr.heap.size,12,none⟩ (.slice a2 ws[k].a.dom.length c2)):=(ae (one wr.heap.size) u1).setCell (p:=⟨wr.heap.size,12,none⟩) (fun _=>rfl) _;have Ay:∀j,(Value.slice av k cv).ownBlock=some j->¬one wr.heap.size j:=by
    rintro j hj rfl;have:=aom _ hj;omega
   have f_:=Rw.gJ (p:=⟨wr.heap.size,12,none⟩) j6 (.slice a2 ws[k].a.dom.length c2);have vA:(r.mT (.slice a2 ws[k].a.dom.length c2)).Reads (dv base (u1.setCell ⟨wr.heap.size,12,none⟩ (.slice a2 ws[k].a.dom.length c2))) ws[k] :=
    ⟨rF.1,rF.2.1,rF.2.2.1,rF.2.2.2.1,rF.2.2.2.2.1,rF.2.2.2.2.2.1,rF.2.2.2.2.2.2.1,rF.2.2.2.2.2.2.2.1,rF.2.2.2.2.2.2.2.2.1,rF.2.2.2.2.2.2.2.2.2.1,Cf.fr kH rO⟩
   have fa:=fu.fr kH Ay;have NV:=DT.mono (fun _ _ h=>h.mono (fun _ _ h=>h.fr kH rO));have D2:∀u∈(r.mT (.slice a2 ws[k].a.dom.length c2)).cells,u.oneCell'=true:=by
    intro u hu;simp only[bJ.cells,bJ.mT,bB,cz,dX]at hu;rcases hu with rfl|rfl|rfl|rfl|rfl|rfl|rfl|rfl|rfl|rfl|rfl|rfl|rfl<;>rfl
   obtain⟨y,hy⟩:∃y,y=(r.mT (.slice a2 ws[k].a.dom.length c2)).cells:=⟨_,rfl⟩;have C7:y.length=13:=by rw[hy];rfl
   rw[<-hy]at D2 kB;have HY:=O hy;have pV:=O kB;have HYI:=O (A1 C7);have Iu:=O fa;have Gl:=vN y v_ (by rw[C7];rfl);have hbw:w.heap.size<=(u1.setCell ⟨wr.heap.size,12,none⟩ (.slice a2 ws[k].a.dom.length c2)).heap.size:=f_.size;have Vo:=O (show(u1.setCell ⟨wr.heap.size,12,none⟩ (.slice a2 ws[k].a.dom.length c2)).heap.size=u1.heap.size by simp[World.setCell]);have ava:w.heap.size<=u1.heap.size:=Rw.size
   have ve:=NV.len;rw[aM,dP hk]at ve;have ND:(rs.map bJ.cells).length<68719476736:=by rw[ai,ve];omega
   have X6:=O vA;have ais:=O NV;have aon:=O f_;clear ve rF ot fC fu DS DT Jv qf rO kH Ay Cf hye hy aea c12 CL fa NV vA f_ Rw dr kB r_ xx
   go_wp2_with (first|((with_reducible refine di 22 ?_);refine aH rfl 133 (.tmp 5) rfl wr.heap.size rfl _ y.toArray (0,0) _ pV.o underlying133 rfl (by rw[aZ];exact HYI.o) ?_)|(at_builtin;refine nQ rfl _ _ 87 133 rfl 13 168 (.agg v_) underlying87 Gs rfl ag ag w.heap.size (.slice av k cv) (rs.map bJ.cells) rfl (Iu.o.alloc _) u1.heap.size 1 y rfl C7 D2 (fun i u hi=>by rw[<-Vo.o,World.cell?_alloc_mark];simpa using hi) ND bI ?_;intro v' w4 fa Ci))
   have ET:=Fr.PD _ Ci;have mS:=Iu.o.off (base:=base) iE ag;rw[HY.o]at fa;refine⟨⟨k+1,rs++[r.mT (.slice a2 ws[k].a.dom.length c2)],ab,bg,by rw[bG];exact fa,?_,aon.o.step ET (fun j hj hS=>by have h2:=Iu.o.block j hS;omega)⟩,by simp[intOf];omega⟩;rw[dZ (List.getElem?_eq_getElem fo)];exact(ais.o.mono (fun _ _ h=>h.mono (fun _ _ h=>h.fr ET mS))).app (.cons (X6.o.mono (fun _ _ h=>h.fr ET mS)) .nil)
  ·rw[aD ab]at vY;obtain⟨av,cv,Va⟩:=cR.form;subst Va;go_wp2;go_ret;exact⟨_,rfl,⟨⟨rs,cR.up iE,vY⟩,cR.block⟩,cL⟩
def Lg(base:Nat)(w:World)(gs:List (aP bE))(ws:List (bJ bE))(e:Ending)(w':World):Prop :=
 ∃b gv wv,e=.returned (.pointer (some ⟨b,0,none⟩))/\dE base w' b gv wv gs ws/\Fr aS w w'/\∀k,dw b gv wv k->w.heap.size<=k
theorem Vp(base:Nat)(w:World)(b:Nat)(gv wv:Value)(gs:List (aP bE))(ws:List (bJ bE))(h:dE base w b gv wv gs ws)(NJ:gs.length<68719476736)(EO:ws.length<68719476736) :
  aB 79 #[.pointer (some ⟨b,0,none⟩)] w (Lg base w gs ws):=by
 have uf:=h.lt;have lo:=h.low;go_enter func79,ntmps79;go_wp2_with fail
 refine(DQ base w b gv wv gs ws h NJ).mono ?_;intro e u1 hp;obtain⟨v1,rfl,⟨FF,Jz⟩,dr⟩:=hp;go_wp2_with fail
 refine(Gu base u1 b gv wv gs ws (h.dm dr) EO).mono ?_;intro e u2 hp;obtain⟨v2,rfl,⟨xk,AU⟩,dB⟩:=hp;obtain⟨a1,c1,EZ⟩:=FF.form;obtain⟨a2,c2,hv2⟩:=xk.form;subst EZ hv2;have Cf:=dr.size;have ML:=dB.size;have gS:Fr aS u2 (u2.alloc (.cells #[.slice a1 gs.length c1,.slice a2 ws.length c2] 89)):=(ae aS u2).alloc _
 have HB:=O (show dE base (u2.alloc (.cells #[.slice a1 gs.length c1,.slice a2 ws.length c2] 89)) u2.heap.size (.slice a1 gs.length c1) (.slice a2 ws.length c2) gs ws from
  ⟨ab,aC _ _,(FF.fr dB (fE _ _) (fun _ _ h=>h)).fr gS (fE _ _) (fun _ _ h=>h),xk.fr gS (fE _ _) (fun _ _ h=>h)⟩)
 have HF:=O ((dr.trans dB).trans gS);have HN:=O (show∀k,dw u2.heap.size (.slice a1 gs.length c1) (.slice a2 ws.length c2) k->w.heap.size<=k from fun k hk=>by
  rcases hk with rfl|hk|hk
  ·omega
  ·exact Jz k hk
  ·have:=AU k hk;omega)
 clear FF xk Jz AU gS h;go_wp2;go_ret;exact⟨_,_,_,rfl,HB.o,HF.o,HN.o⟩
theorem dv.aor(base:Nat)(w:World)(x:aj):dv base (w.alloc (.cells #[.string x] 9)) (.slice (some ⟨w.heap.size,0,none⟩) 1 1) [x]:=by
 refine⟨Or.inr ⟨w.heap.size,0,1,rfl,ay _,by simp[maxLen],aR,fun j z hj=>?_⟩,fun k hk _=>?_,aR⟩
 ·rw[bw,World.cell?_alloc_mark]
  match j,hj with
  |0,hj=>simp at hj;subst hj;rfl
 ·simp[Value.ownBlock]at hk;subst hk;exact⟨aR,Or.inr ⟨_,_,aC _ _⟩⟩
theorem Vu(p q:eo)(w:World) :
  aB 138 #[.agg p.cells.toArray,.agg q.cells.toArray] w fun e w'=>e=.returned (.bool (p.like q))/\Fr aS w w':=by
 have heq:=Lk {p with pT:=q.pT} q;have HR:=O (show p.like q=({p with pT:=q.pT}:eo).lj q from rfl);obtain⟨W0,hW0⟩:∃W0,W0=(w.alloc (.cells p.cells.toArray 155)).alloc (.cells q.cells.toArray 155):=⟨_,rfl⟩;have pd:Fr aS w W0:=by rw[hW0];exact((ae aS w).alloc _).alloc _
 have h0:W0.heap[w.heap.size]?=some (.cells p.cells.toArray 155 (0,0)):=by rw[hW0];exact((ae aS _).alloc _).keep (aC _ _) id
 have h1:W0.heap[w.heap.size+1]?=some (.cells q.cells.toArray 155 (0,0)):=by
  have h:=aC (w.alloc (.cells p.cells.toArray 155)) (.cells q.cells.toArray 155);rw[bO]at h;rw[hW0];exact h
 have TB:W0.cell? ⟨w.heap.size+1,11,none⟩=some (.int .i64 q.pT):=by simp only[World.cell?,h1];rfl
 have d11:W0.cell? ⟨w.heap.size,11,none⟩=some (.int .i64 p.pT):=by simp only[World.cell?,h0];rfl
 have e11:W0.frozen? ⟨w.heap.size,11,none⟩=false:=by simp[World.frozen?,h0]
 clear h0 h1 pd;rw[hW0]at TB d11 e11;clear hW0;have hF:Fr aS w ((w.alloc (.cells ({p with pT:=q.pT}:eo).cells.toArray 155)).alloc (.cells q.cells.toArray 155)):=((ae aS w).alloc _).alloc _
 have g0:((w.alloc (.cells ({p with pT:=q.pT}:eo).cells.toArray 155)).alloc (.cells q.cells.toArray 155)).heap[w.heap.size]?=some (.cells ({p with pT:=q.pT}:eo).cells.toArray 155 (0,0)):=((ae aS _).alloc _).keep (aC _ _) id;have g1:((w.alloc (.cells ({p with pT:=q.pT}:eo).cells.toArray 155)).alloc (.cells q.cells.toArray 155)).heap[w.heap.size+1]?=some (.cells q.cells.toArray 155 (0,0)):=by
  have h:=aC (w.alloc (.cells ({p with pT:=q.pT}:eo).cells.toArray 155)) (.cells q.cells.toArray 155);rw[bO]at h;exact h
 unfold eo.cells at *
 dsimp only at heq hF g0 g1;have G:=O (And.intro g0 g1);have HF:=O hF;clear g0 g1 hF;go_enter func138,ntmps138;go_wp2_with (first|((with_reducible refine di 8 ?_);refine aH rfl 155 (.tmp 2) rfl w.heap.size rfl _ _ (0,0) _ G.o.1 underlying155 rfl af ?_)|((with_reducible refine di 9 ?_);refine aH rfl 155 (.tmp 3) rfl (w.heap.size+1) rfl _ _ (0,0) _ G.o.2 underlying155 rfl af ?_)|fail)
 go_ret;exact⟨by rw[HR.o];rfl,HF.o⟩
theorem GC(p:eo)(now:Int)(w:World) :
  aB 124 #[.agg p.cells.toArray,.int .i64 now] w fun e w'=>e=.returned (.bool (p.alive now))/\Fr aS w w':=by
 have HR:=O (show p.alive now=decide (now<p.pT)from rfl);have gS:Fr aS w _:=(ae aS w).alloc (.cells p.cells.toArray 155);have h0:(w.alloc (.cells p.cells.toArray 155)).heap[w.heap.size]?=some (.cells p.cells.toArray 155 (0,0)):=aC _ _;have TB:(w.alloc (.cells p.cells.toArray 155)).cell? ⟨w.heap.size,11,none⟩=some (.int .i64 p.pT):=by simp only[World.cell?,h0];rfl
 clear h0;unfold eo.cells at *
 go_enter func124,ntmps124;go_wp2;go_ret;exact⟨by rw[HR.o];rfl,gS⟩
theorem eo.tZ(p:eo):∀u∈p.cells,u.oneCell'=true:=by
 unfold eo.cells;simp[Value.oneCell']
theorem Vv(p q:eo)(bp:Nat)(w:World)(hp:w.heap[bp]?=some (.cells p.cells.toArray 155 (0,0))) :
  aB 137 #[.agg q.cells.toArray,.pointer (some ⟨bp,0,none⟩)] w fun e w'=>e=.returned (.bool (p.like q))/\Fr aS w w':=by
 have gS:Fr aS w (w.alloc (.cells q.cells.toArray 155)):=(ae aS w).alloc _;have g0:=gS.keep hp id;have g1:(w.alloc (.cells q.cells.toArray 155)).heap[w.heap.size]?=some (.cells q.cells.toArray 155 (0,0)):=aC _ _;have HL:=O (Vu p q (w.alloc (.cells q.cells.toArray 155)));have G:=O (And.intro g0 g1);have HF:=O gS;clear hp g0 g1 gS;unfold eo.cells at *
 go_enter func137,ntmps137;go_wp2_with (first|((with_reducible refine di 4 ?_);refine aH rfl 155 (.tmp 1) rfl bp rfl _ _ (0,0) _ G.o.1 underlying155 rfl af ?_)|((with_reducible refine di 5 ?_);refine aH rfl 155 (.tmp 2) rfl w.heap.size rfl _ _ (0,0) _ G.o.2 underlying155 rfl af ?_)|fail)
 refine HL.o.mono ?_;rintro e u⟨rfl,hf⟩;go_wp2;go_ret;exact⟨rfl,HF.o.trans hf⟩
theorem Vw(q:eo)(now:Int)(bn:Nat)(w:World)(hn:w.heap[bn]?=some (.cells #[.int .i64 now] 3 (0,0))) :
  aB 139 #[.agg q.cells.toArray,.pointer (some ⟨bn,0,none⟩)] w fun e w'=>e=.returned (.bool (!q.alive now))/\Fr aS w w':=by
 have gS:Fr aS w (w.alloc (.cells q.cells.toArray 155)):=(ae aS w).alloc _;have g0:=gS.keep hn id;have g1:(w.alloc (.cells q.cells.toArray 155)).heap[w.heap.size]?=some (.cells q.cells.toArray 155 (0,0)):=aC _ _;have cn:(w.alloc (.cells q.cells.toArray 155)).cell? ⟨bn,0,none⟩=some (.int .i64 now):=by simp only[World.cell?,g0];rfl
 have HL:=O (GC q now (w.alloc (.cells q.cells.toArray 155)));have G:=O g1;have HF:=O gS;clear hn g0 g1 gS;unfold eo.cells at *
 go_enter func139,ntmps139;go_wp2_with (first|((with_reducible refine di 4 ?_);refine aH rfl 155 (.tmp 2) rfl w.heap.size rfl _ _ (0,0) _ G.o underlying155 rfl af ?_)|fail)
 refine HL.o.mono ?_;rintro e u⟨rfl,hf⟩;go_wp2;go_ret;exact⟨rfl,HF.o.trans hf⟩
def VH(n:Nat)(er:Value)(w':World):Prop :=
 er=.iface 105 (.int .i64 n)\/∃g p,er=.iface 211 (.pointer (some ⟨g,0,none⟩))/\w'.heap[g]?=some (.cells #[.int .i64 n,.int .i64 p] 213 (0,0))
def om(s:aj)(w:World)(e:Ending)(w':World):Prop :=
 Fr aS w w'/\match mC s.data.toList with
  | .error n=>∃er,e=.returned (.tuple #[.slice none 0 0,er])/\VH n er w'
  | .ok l=>∃v,e=.returned (.tuple #[v,.nilIface])/\lq w.heap.size w' v l
theorem om.bad{er:Value}(h:mC s.data.toList=.error n)(hf:Fr aS w w')(he:VH n er w'):om s w (.returned (.tuple #[.slice none 0 0,er])) w':=by
 refine⟨hf,?_⟩;rw[h];exact⟨er,rfl,he⟩
theorem om.ok{l:List nt}(h:mC s.data.toList=.ok l)(hf:Fr aS w w')(hv:lq w.heap.size w' v l):om s w (.returned (.tuple #[v,.nilIface])) w':=by
 refine⟨hf,?_⟩;rw[h];exact⟨v,rfl,hv⟩
theorem Lv(acc:List nt)(r:Bs):kf (r.length+1) acc r=if(iH r).isEmpty then .ok acc else
  match pk acc.length (iH r)with
  | .error e=>.error e
  | .ok q=>kf (q.2.length+1) (acc++[q.1]) q.2:=by
 rw[kf];split
 ·rfl
 ·cases ho:pk acc.length (iH r)with
  |error e=>rfl
  |ok q =>
   obtain⟨x,r1⟩:=q;have h1:=Cx ho;have h2:=oI r;simp only;rw[qh r.length _ _ ab]
def aiS(s:aj)(w:World)(wr:World):Prop :=
 ∃acc v j,j<=s.size/\iJ wr (w.heap.size+1) w.heap.size s v/\dx wr w.heap.size s j/\lq w.heap.size wr v acc/\Fr aS w wr/\acc.length<=8/\iH (s.data.toList.drop j)=s.data.toList.drop j /\
  mC s.data.toList=kf ((s.data.toList.drop j).length+1) acc (s.data.toList.drop j)
theorem RH(s:aj)(w:World)(hs:s.size<=140737488351232) :
  aB 54 #[.string s] w (om s w):=by
 by_cases h3:3000<s.size
 ·have h3':(3000:Int)<(s.size:Int):=ab;have HE:=O (show mC s.data.toList=.error 4 by unfold mC;rw[az (by simpa using h3)]);go_enter func54,ntmps54;go_wp2;go_ret2;exact om.bad HE.o (ae _ _) (Or.inl rfl)
 ·have h3':¬(3000:Int)<(s.size:Int):=ab;have hm:s.size<=maxLen:=fx;have HC:=O (show mC s.data.toList=kf (s.data.toList.length+1) [] s.data.toList by unfold mC;rw[aq (by simpa using h3)]);go_enter func54,ntmps54;go_wp2_with fail
  refine(TU s w).mono ?_;rintro e w1⟨rfl,oy⟩;have pA:dx w1 w.heap.size s 0:=by rw[oy];exact aC _ _
  have Cf:w1.heap.size=w.heap.size+1:=by rw[oy];simp
  have dr:Fr aS w w1:=by rw[oy];exact(ae _ _).alloc _
  clear oy;obtain⟨w2,eE⟩:∃w2,w2=w1.alloc (.cells #[.pointer (some ⟨w.heap.size,0,none⟩),.string s,.slice none 0 0] 195):=⟨_,rfl⟩;have ot:iJ w2 (w.heap.size+1) w.heap.size s (.slice none 0 0):=by rw[eE, <-Cf];exact aC _ _
  have ze:Fr aS w1 w2:=by rw[eE];exact(ae _ _).alloc _
  have sr:=pA.fr ze id;have f_:=O (dr.trans ze);have nI:=O eE;clear eE dr ze pA;go_wp2_with fail
  rw[<-nI.o];refine(Df _ _ 0 s _ w2 ot sr hm (aQ _)).mono ?_;rintro e w3⟨rfl,uj,iz⟩;have NJ:cM oq s.data.toList 0<=s.size:=by simpa using ib (p:=oq) (l:=s.data.toList) (i:=0) (aQ _)
  have HGD:=O (show s.data.toList.drop (cM oq s.data.toList 0)=iH s.data.toList by rw[ke,eG];rfl);generalize cM oq s.data.toList 0=j0 at *
  have rF:=ot.one sr iz;have iA:=O (f_.o.xO iz (ay _));have X0:=O (show mC s.data.toList=kf ((s.data.toList.drop j0).length+1) [] (s.data.toList.drop j0)by
   rw[HC.o,BG _ _ (show iH s.data.toList=iH (s.data.toList.drop j0)by rw[HGD.o,sx])];exact qh _ _ _ (by rw[HGD.o];have:=oI s.data.toList;omega))
  have VI:=O (show iH (s.data.toList.drop j0)=s.data.toList.drop j0 by rw[HGD.o,sx]);clear iz ot sr Cf nI;go_wp2;go_loopw[] (aiS s w) (fun wr=>s.size-pD wr w.heap.size)
  case atStart=>exact⟨[],_,j0,NJ,rF,uj,lq.nil _ _,iA.o,aR,VI.o,X0.o⟩
  case round =>
   obtain⟨acc,v,j,hj,vA,ug,Pq,cL,hl8,hgj,xr⟩:=hrel;have Ff:=O xr;have HGJ:=O hgj;clear xr hgj X0 VI HGD rF uj;have p_:=O ug.pos;have q0:=vA.cell0;have mj:=O (Lv acc (s.data.toList.drop j));rw[HGJ.o]at mj;go_wp2_with fail
   refine(wN _ s j wr ug).mono ?_;rintro e w5⟨rfl,n5,rfl⟩;by_cases AI:s.size<=j
   ·have hd:decide (s.size<=j)=true:=bM AI;have HE:=O (show mC s.data.toList=.ok acc by
     rw[Ff.o,mj.o,cQ (by simpa using AI)];rfl)
    have q2:=vA.lT;rw[hd];go_wp2;go_ret2;exact om.ok HE.o (cL.drewN _) (Pq.fr ((ae aS wr).drewN n5) (IC.none _))
   ·have hd:decide (s.size<=j)=false:=bD AI;rw[hd];have hne:(s.data.toList.drop j).isEmpty=false:=by
     cases e:s.data.toList.drop j with
     |nil =>
      have:=ar List.length e;simp at this;omega
     |cons a l=>rfl
    rw[hne]at mj;have BN:=vA.drewN (n:=n5);have uh:=ug.drewN n5;have hv5:=Pq.fr ((ae aS wr).drewN n5) (IC.none _);have ym:=cL.drewN n5;have hbw:w.heap.size<=(wr.drewN n5).heap.size:=ym.size;generalize wr.drewN n5=w5 at *
    go_wp2_with fail
    refine(ZY w.heap.size _ _ j s acc v w5 BN uh hv5 hbw ab hj hl8).mono ?_;intro e w6 hp;obtain⟨nF,hm6⟩:=hp;have UP:∀k,v.ownBlock=some k->w.heap.size<=k:=by
     obtain⟨rs,h1,_⟩:=hv5;exact h1.block
    have yH:=O (show Fr aS w w6 from ym.step nF (fun k hk hh=>by
     rcases hh with hh|hh|hh
     ·omega
     ·omega
     ·have:=UP k hh;omega))
    cases ho:pk acc.length (s.data.toList.drop j)with
    |error n =>
     rw[ho]at hm6;obtain⟨p,g,rfl,hg⟩:=hm6;have HE:=O (show mC s.data.toList=.error n by rw[Ff.o,mj.o,ho];rfl);clear ho;go_wp2;go_ret2;exact om.bad HE.o yH.o (Or.inr ⟨g,p,rfl,hg⟩)
    |ok q =>
     obtain⟨x,z⟩:=q;rw[ho]at hm6;obtain⟨rfl,j1,v',hj1,MO,hd6,Js,hv6⟩:=hm6;simp only at hd6 hv6;have hole:=Cx ho;have hk8:=(Pz ho).2;have hjj:j<j1:=by
      have e1:z.length=s.size-j1:=by rw[<-hd6];simp
      have e2:(s.data.toList.drop j).length=s.size-j:=aR;omega
     have Tg:=O (show mC s.data.toList=kf (z.length+1) (acc++[x]) z by rw[Ff.o,mj.o,ho];rfl);clear ho hole;go_wp2_with fail
     refine(Df _ _ j1 s v' w6 Js MO hm hj1).mono ?_;rintro e w7⟨rfl,Y4,ov⟩;have aoE:cM oq s.data.toList j1<=s.size:=by simpa using ib (p:=oq) (l:=s.data.toList) (i:=j1) (by simpa using hj1)
     have XX:j1<=cM oq s.data.toList j1:=lH;have HG7:=O (show s.data.toList.drop (cM oq s.data.toList j1)=iH z by rw[ke,hd6];rfl);generalize cM oq s.data.toList j1=j2 at *
     have Tl:=Js.one MO ov;have hv7:=hv6.fr ov (IC.cur MO);have Jt:=O (yH.o.xO ov (ay _));have HS7:=O (show mC s.data.toList=kf ((s.data.toList.drop j2).length+1) (acc++[x]) (s.data.toList.drop j2)by
      rw[Tg.o,BG _ _ (show iH z=iH (s.data.toList.drop j2)by rw[HG7.o,sx])];exact qh _ _ _ (by rw[HG7.o];have:=oI z;omega))
     have HGG:=O (show iH (s.data.toList.drop j2)=s.data.toList.drop j2 by rw[HG7.o,sx]);go_wp2;go_roundw
     case rel=>exact⟨acc++[x],v',j2,aoE,Tl,Y4,hv7,Jt.o,bI,HGG.o,HS7.o⟩
     case measure=>rw[p_.o,Y4.pos];omega
open Go.ChangeShapes Go.WideShapes Go.ChangeAt Go.RowKit Go.Deep
variable {H : Type} {enc : TypeId × Value → H} {W : World}
theorem Ha:prog.cellsOf 34=5:=af
theorem Hb:prog.cellsOf 37=13:=af
theorem OX:prog.cellsOf 35=1:=af
theorem aqB{α:Type}{l:List α}(h:l.length=5):∃a b c d e,l=[a,b,c,d,e]:=by
 match l,h with
 |[a,b,c,d,e],_=>exact⟨a,b,c,d,e,rfl⟩
theorem akJ{α:Type}{l:List α}(h:l.length=13):∃a b c d e f g i j k m n o,l=[a,b,c,d,e,f,g,i,j,k,m,n,o]:=by
 match l,h with
 |[a,b,c,d,e,f,g,i,j,k,m,n,o],_=>exact⟨a,b,c,d,e,f,g,i,j,k,m,n,o,rfl⟩
theorem Xt{fuel:Nat}{cs:aX}{x:DataW H×List MemPlace}(h:DataW.trod enc prog W 0 (fun _=>true) true fuel 34 cs=some x) :
  ∃(o:gA) (pa qu:aj),cs=o.cells++[.string pa,.string qu]/\(Lit.int .i64 o.port).wf=true/\(o_ prog 34 x.1->o.Mo/\pa.size<=reachBytes/\qu.size<=reachBytes):=by
 obtain⟨hl,n,hf⟩:=nZ underlying34 h;rw[Ha]at hl;obtain⟨c0,c1,c2,c3,c4,rfl⟩:=aqB hl;obtain⟨y0,h0,l0⟩:=hf 0 32 0 _ rfl Bv;obtain⟨y1,h1,l1⟩:=hf 1 9 3 _ rfl iU;obtain⟨y2,h2,l2⟩:=hf 2 9 4 _ rfl iU;simp only[List.drop,List.take]at h0 h1 h2;obtain⟨o,e0,w0,s0⟩:=Mp h0;obtain⟨b1,e1,w1⟩:=ft underlying9 h1;obtain⟨b2,e2,w2⟩:=ft underlying9 h2;unfold gA.cells at e0;simp only[fF,iM]at e0 e1 e2
 obtain⟨rfl,rfl,rfl⟩:=e0;subst e1 e2;exact⟨o,b1,b2,rfl,w0,fun hL=>⟨s0 (l0 hL),w1 (l1 hL),w2 (l2 hL)⟩⟩
def aqC:eo:=⟨⟨false,.empty,0⟩,⟨false,.empty,0⟩,.empty,.empty,false,.empty,.empty,0⟩
instance:Inhabited eo:=⟨aqC⟩
def oo(r:gu Value)(hs:List ig):Bool:=My hs&&decide ((r.method.size:Int)+(r.path.size:Int)+(r.query.size:Int)+(r.o.host.size:Int)+(r.cX.host.size:Int)<=600)
theorem Jj(r:gu Value)(hs:List ig)(w:World)(hr:oL w r.ey hs)(hl:hs.length<=140737488355328)(hzs:∀p∈hs,p.1.size<=140737488351232/\p.2.size<=140737488351232)(hz:r.Mo) :
  aB 41 #[.agg r.cells.toArray] w fun e w'=>e=.returned (.bool (oo r hs))/\Fr aS w w':=by
 obtain⟨z1,z2,z3,z4,z5⟩:=hz;obtain⟨wb,j6⟩:∃wb,wb=w.alloc (.cells r.cells.toArray 37):=⟨_,rfl⟩;have ks:Fr aS w wb:=by rw[j6];exact(ae aS w).alloc _
 have mf:wb.heap[w.heap.size]?=some (.cells r.cells.toArray 37 (0,0)):=by rw[j6];exact aC _ _
 obtain⟨ah,ch,gH⟩:=dK hr;rw[ai]at gH;have uH:r.cells=[.int .i64 r.part,.bool r.cX.aE,.string r.cX.host,.int .i64 r.cX.port,.bool r.o.aE,.string r.o.host,.int .i64 r.o.port,.string r.path,.string r.query,.string r.method,.slice ah hs.length ch,.bool r.fN,.string r.body]:=by unfold gu.cells;rw[gH]
 have HC:=O (show∀U,Fr aS wb U->U.cell? ⟨w.heap.size,2,none⟩=some (.string r.cX.host)/\U.cell? ⟨w.heap.size,5,none⟩=some (.string r.o.host)/\U.cell? ⟨w.heap.size,7,none⟩=some (.string r.path)/\U.cell? ⟨w.heap.size,8,none⟩=some (.string r.query)/\U.cell? ⟨w.heap.size,9,none⟩=some (.string r.method)/\U.cell? ⟨w.heap.size,10,none⟩=some (.slice ah hs.length ch)from fun U hU=>by
  have j:=hU.keep mf id;rw[uH]at j;simp[World.cell?,j])
 have rK:=O (abe (.slice ah hs.length ch) hs wb (by rw[<-gH];exact bh hr ks) hl hzs);rw[uH]at j6 ⊢;have mr:=O ks;have qV:=O j6;obtain⟨k2,k5,k7,k8,k9,k10⟩:=HC.o wb (ae _ _);rw[j6]at k10;clear hr hl hzs ks mf gH uH j6 k2 k5 k7 k8 k9;cases MR:My hs
 ·have HR:=O (show oo r hs=false by unfold oo;rw[MR];rfl);rw[MR]at rK;clear MR;go_enter func41,ntmps41;go_wp2_with fail
  rw[<-qV.o];refine rK.o.mono ?_;rintro e u⟨rfl,hf⟩;go_wp2;go_ret;exact⟨by rw[HR.o];rfl,mr.o.trans hf⟩
 ·have HR:=O (show oo r hs=decide ((r.method.size:Int)+(r.path.size:Int)+(r.query.size:Int)+(r.o.host.size:Int)+(r.cX.host.size:Int)<=600)by unfold oo;rw[MR];rfl);rw[MR]at rK;clear MR;go_enter func41,ntmps41;go_wp2_with fail
  rw[<-qV.o];refine rK.o.mono ?_;rintro e u⟨rfl,hf⟩;obtain⟨k2,k5,k7,k8,k9,_⟩:=HC.o u hf;go_wp2;go_ret;exact⟨by rw[HR.o];rfl,mr.o.trans hf⟩
