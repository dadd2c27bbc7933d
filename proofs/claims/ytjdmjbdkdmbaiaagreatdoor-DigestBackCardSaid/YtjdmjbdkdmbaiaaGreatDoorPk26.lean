/- Rdr4, FRight. -/
import Derived.Test.YtjdmjbdkdmbaiaaGreatDoorPk24
set_option maxRecDepth 100000
set_option maxHeartbeats 16000000
set_option linter.unusedSimpArgs false
namespace Go.Proofs.YtjdmjbdkdmbaiaaGreatDoor
open Go.RowKit
abbrev EB:=ByteArray×ByteArray×Value
def vg(r:EB):List Value:=[.string r.1,.string r.2.1,r.2.2]
theorem Pg{r:EB}(h:r.2.2.oneCell'=true):∀u∈vg r,u.oneCell'=true:=by
 intro u hu;simp only[vg,List.mem_cons,List.not_mem_nil,or_false]at hu;rcases hu with rfl|rfl|rfl
 ·rfl
 ·rfl
 ·exact h
def Ph(base:Nat)(w:World)(r:EB)(x:iI):Prop:=r.1=bA x.scheme/\r.2.1=bA x.token/\OwnRows base 126 2 w r.2.2 (x.params.map jB)
def fP(base:Nat)(w:World)(v:Value)(xs:List iI):Prop:=∃rs:List EB,OwnRows base 88 3 w v (rs.map vg)/\fF (Ph base w) rs xs
theorem fP.nil(base:Nat)(w:World):fP base w (.slice none 0 0) []:=⟨[],OwnRows.nil _ _ _ _,.nil⟩
theorem fP.form{base:Nat}{w:World}{v:Value}{xs:List iI}(h:fP base w v xs):∃a c,v=.slice a xs.length c:=by
 obtain⟨rs,h1,h2⟩:=h;obtain⟨a,c,e⟩:=h1.form;exact⟨a,c,by rw[e,List.length_map,h2.len]⟩
def Ch(w:World)(S:Nat->Prop):Prop:=∀k,S k->k<w.heap.size->∃cs t f,w.heap[k]?=some (.cells cs t f)/\t≠126/\t≠88
theorem Ch.none(w:World):Ch w ay:=fun _ h=>absurd h (fun h=>h)
theorem Ch.cur{w:World}{c i:Nat}{s:ByteArray}(h:aU w c s i):Ch w (one c):=fun k hk _=>by
 obtain rfl:k=c:=hk;exact⟨_,_,_,h,by decide,by decide⟩
theorem fP.fr{base:Nat}{w w':World}{v:Value}{xs:List iI}{S:Nat->Prop}(h:fP base w v xs)(hf:Fr S w w')(hS:Ch w S):fP base w' v xs:=by
 obtain⟨rs,h1,h2⟩:=h;have key:∀ {k:Nat} {e:TypeId} {u:Value} {ys:List (List Value)},(e=126\/e=88)->OwnRows base e k w u ys->OwnRows base e k w' u ys:=by
  intro k e u ys he ho;refine ho.fr hf (fun b hb hs=>?_);obtain⟨cur,hc⟩:=ho.Je hb;obtain⟨cs,t,f,hc',n1,n2⟩:=hS b hs (aj hc);rw[hc]at hc';cases hc';rcases he with rfl|rfl
  ·exact n1 rfl
  ·exact n2 rfl
 exact⟨rs,key (Or.inr rfl) h1,h2.mono (fun r x hr=>⟨hr.1,hr.2.1,key (Or.inl rfl) hr.2.2⟩)⟩
def ag7(c b:Nat)(v:Value):Nat->Prop:=fun k=>k=c\/k=b\/v.ownBlock=some k
def mV(base c b i:Nat)(s:ByteArray)(xs:List iI)(v:Value)(w:World)(e:Ending)(w':World):Prop :=
 Fr (ag7 c b v) w w'/\match j9 xs.length (s.data.toList.drop i)with
  | .error n=>∃p,rr n p e w'
  | .ok q=>e=.returned .nilIface/\∃j v',j<=s.size/\aU w' c s j/\s.data.toList.drop j=q.2/\dQ w' b c s v'/\fP base w' v' (xs++[q.1])
theorem mV.bad{base c b i n p:Nat}{s:ByteArray}{xs:List iI}{v:Value}{w w':World}{e:Ending}(h:j9 xs.length (s.data.toList.drop i)=.error n)(hf:Fr (one c) w w')(he:rr n p e w'):mV base c b i s xs v w e w':=by
 refine⟨hf.mono (fun k _ e=>Or.inl e),?_⟩;rw[h];exact⟨p,he⟩
def Z_(c b X i n:Nat)(s:ByteArray)(v:Value)(W:Bs)(w wx:World):Prop :=
 ∃tok ps pv j,j<=s.size/\aU wx c s j/\dQ wx b c s v/\fy wx X (bA W) (bA tok) pv/\OwnRows w.heap.size 126 2 wx pv (ps.map jB)/\Fr (one c) w wx /\
  j9 n (s.data.toList.drop i)=.ok (⟨W,tok,ps⟩,s.data.toList.drop j)
def ag8(c b X K:Nat)(s:ByteArray)(v:Value)(W:Bs)(w:World)(t:Value)(wr:World):Prop :=
 ∃mb ps pv j,t=.bool mb/\j<=s.size/\aU wr c s j/\dQ wr b c s v/\fy wr X (bA W) ⟨#[]⟩ pv/\OwnRows w.heap.size 126 2 wr pv (ps.map jB)/\Fr (one c) w wr/\ps.length<=16/\(∀p∈ps,p.1.length<100000) /\
  du ((s.data.toList.drop K).length+1) [] (s.data.toList.drop K)=(if mb then du ((s.data.toList.drop j).length+1) ps (s.data.toList.drop j)else .ok (ps,s.data.toList.drop j))
theorem Ci(ps:List ew)(r:Bs):du (r.length+1) ps r=match fK ps r with
  | .error e=>.error e
  | .ok q=>if jl q.2 then(if gi (dN q.2)then du ((dN q.2).length+1) (ps++[q.1]) (dN q.2)else .ok (ps++[q.1],dN q.2))else .error 3:=by
 rw[du];cases hp:fK ps r with
 |error e=>rfl
 |ok q =>
  obtain⟨p,r1⟩:=q;simp only;have h1:=nA hp;have h2:=jJ r1;rw[nZ r.length _ _ (by omega)]
theorem Pj:(Tryz.prog.info? 88).map (fun i=>(i.zero,i.size,i.bytes))=some (some (.agg #[.string ⟨#[]⟩,.string ⟨#[]⟩,.slice none 0 0]),3,56):=by kernel_rfl
theorem OwnRows.UU{base k:Nat}{e:TypeId}{w:World}{v:Value}{xs:List (List Value)}(h:OwnRows base e k w v xs):v.oneCell'=true:=by
 obtain⟨a,c,e⟩:=h.form;rw[e];rfl
theorem G1(s:ByteArray)(k:Nat):decide (k<aQ bh s.data.toList k)=ko (s.data.toList.drop k):=by
 rcases Nat.lt_or_ge k s.data.toList.length with h|h
 ·rw[List.drop_eq_getElem_cons h];show _=bh s.data.toList[k];cases hb:bh s.data.toList[k]
  ·rw[fZ (fun c hc=>by rw[List.getElem?_eq_getElem h]at hc;cases hc;exact hb)];simp
  ·rw[jH (List.getElem?_eq_getElem h) hb];have:=f_ (p:=bh) (l:=s.data.toList) (i:=k+1);exact decide_eq_true (by omega)
 ·rw[List.drop_eq_nil_of_le h,fZ (fun c hc=>by rw[List.getElem?_eq_none h]at hc;cases hc)];simp[ko]
theorem Pk(s:ByteArray)(k:Nat):jl (s.data.toList.drop k)=jl (s.data.toList.drop (cR s k)):=by rw[jN,Bz]
theorem UW(s:ByteArray)(k:Nat):cR s (cR s k)=cR s k:=zT _ _ _
theorem UX(base b c i:Nat)(s:ByteArray)(xs:List iI)(v:Value)(w:World)(hr:dQ w b c s v)(h:aU w c s i)(hv:fP base w v xs)(hb:base<=w.heap.size)
  (hs:s.size<100000)(hi:i<=s.size)(hl:xs.length<=8) :
  Calls Tryz.prog 100 #[.pointer (some ⟨b,0,none⟩)] w (mV base c b i s xs v w):=by
 have hm:s.size<=maxLen:=by unfold maxLen;omega
 have hbc:=hr.ne h;have q0:=hr.cell0;have hw:=BM hi;have HWD:=O (pQ s i);have KH:=(show j9 xs.length (s.data.toList.drop i)=if(dB (s.data.toList.drop i)).isEmpty then .error 3
  else if xs.length=8 then .error 4
  else if jl (dJ (s.data.toList.drop i))then .ok (⟨dB (s.data.toList.drop i),[],[]⟩,bS (dJ (s.data.toList.drop i)))
  else if !ko (dJ (s.data.toList.drop i))then .error 3
  else match singleR (bS (dJ (s.data.toList.drop i)))with
   |some q=>.ok (⟨dB (s.data.toList.drop i),q.1,[]⟩,q.2)
   |none=>match du ((bS (dJ (s.data.toList.drop i))).length+1) [] (bS (dJ (s.data.toList.drop i)))with
    | .error e=>.error e
    | .ok q=>.ok (⟨dB (s.data.toList.drop i),[],q.1⟩,q.2)from rfl)
 rw[<-pQ]at KH;have zW:(dB (s.data.toList.drop i)).length<=s.size:=by
  have:=lJ (s.data.toList.drop i);simp at this;omega
 have KJ:=O KH;clear KH;go_enter Tryz.func100,Tryz.ntmps100;go_wp2_with fail
 refine(uM c s i w h).mono ?_;rintro e w0⟨rfl,rfl⟩;go_wp2_with fail
 refine(pC c s i w h hm hi).mono ?_;rintro e w1⟨rfl,kS,bt⟩;replace kS:aU w1 c s (CT s i):=kS;rw[show s.extract i (aQ cP s.data.toList i)=bA (dB (s.data.toList.drop i))from tF s i];generalize dB (s.data.toList.drop i)=W at *
 generalize CT s i=K1 at *
 obtain⟨wx,GX⟩:∃wx,wx=w1.alloc (.cells #[.string (bA W),.string ⟨#[]⟩,.slice none 0 0] 88):=⟨_,rfl⟩;have bq:Fr ay w1 wx:=by rw[GX];exact(Fr.refl _ _).alloc _
 have hX:fy wx w1.heap.size (bA W) ⟨#[]⟩ (.slice none 0 0):=by rw[GX];exact af _ _
 have hXw:w.heap.size<=w1.heap.size:=bt.size;have sL:=hr.one h bt;have kR:=sL.fr bq (fun h=>h);have nW:=kS.fr bq (fun h=>h);have dk:=O (bt.trans bq.iC);have M6:=O GX;have HXS:=O (show wx.heap.size=w1.heap.size+1 by rw[GX];simp);have q1a:∀o:Obj,(w1.alloc o).cell? ⟨b,0,none⟩=some (.pointer (some ⟨c,0,none⟩)):=fun o=>(sL.fr ((Fr.refl ay w1).alloc o) (fun h=>h)).cell0
 have q1b:∀o:Obj,(w1.alloc o).cell? ⟨b,2,none⟩=some v:=fun o=>(sL.fr ((Fr.refl ay w1).alloc o) (fun h=>h)).ir;obtain⟨av,cv,WV⟩:=hv.form;rw[WV]at q1b;generalize hXe:w1.heap.size=X at *
 clear GX q0 bt;cases Jh:W.isEmpty
 case true =>
  have CV:(bA W).toList=[]:=by rw[il];exact List.isEmpty_iff.1 Jh
  have wJ:((bA W).toList== [])=true:=beq_iff_eq.2 CV;have HE:=O (show j9 xs.length (s.data.toList.drop i)=.error 3 by rw[KJ.out,if_pos Jh]);go_wp2_with fail
  rw[<-M6.out];refine(nD b c K1 3 s v wx kR nW).mono ?_;rintro e w4⟨⟨g,rfl,hg⟩,bT⟩;go_wp2;go_ret;exact mV.bad HE.out (dk.out.trans bT.iC) ⟨g,rfl,hg⟩
 case false =>
  have CV:¬(bA W).toList=[]:=by rw[il];intro e;rw[e]at Jh;cases Jh
  have wJ:((bA W).toList== [])=false:=beq_eq_false_iff_ne.2 CV;by_cases h8:xs.length=8
  ·have Xa:((xs.length:Int)==8)=true:=by rw[h8];rfl
   have HE:=O (show j9 xs.length (s.data.toList.drop i)=.error 4 by rw[KJ.out,if_neg (by rw[Jh];simp),if_pos h8]);clear h8;go_wp2;go_ret;rw[<-M6.out];exact mV.bad HE.out (dk.out.alloc _) ⟨X+1,rfl,by rw[<-HXS.out];exact af wx _⟩
  ·have Xa:((xs.length:Int)==8)=false:=beq_eq_false_iff_ne.2 (by omega);have LB:=O (show j9 xs.length (s.data.toList.drop i)=if jl (s.data.toList.drop K1)then .ok (⟨W,[],[]⟩,bS (s.data.toList.drop K1))
    else if !ko (s.data.toList.drop K1)then .error 3
    else match singleR (bS (s.data.toList.drop K1))with
     |some q=>.ok (⟨W,q.1,[]⟩,q.2)
     |none=>match du ((bS (s.data.toList.drop K1)).length+1) [] (bS (s.data.toList.drop K1))with
      | .error e=>.error e
      | .ok q=>.ok (⟨W,[],q.1⟩,q.2)by rw[KJ.out,if_neg (by rw[Jh];simp),if_neg h8])
   clear KJ Jh;go_wp2_with fail
   rw[<-M6.out];refine(gY c s K1 wx nW hm hw).mono ?_;rintro e w3⟨rfl,nX,dv⟩;replace nX:aU w3 c s (cR s K1):=nX;have HBH:=O (show decide (K1<aQ bh s.data.toList K1)=ko (s.data.toList.drop K1)from G1 s K1);rw[HBH.out];have ng:=rW hw;have xf:=O (jN s K1);rw[<-jN,Pk]at LB;have o7:=O (UW s K1);generalize cR s K1=K2 at *
   have oT:=kR.one nW dv;have yH:=hX.fr dv (fun e=>hX.ne nW e);have dV:=O (dk.out.trans dv);clear sL kR kS nW hX bq dv q1a q1b CV wJ Xa HBH xf
   go_upto_block 0 with fail
   go_cut [5,6,7,8]from 39 to 69 (fun _ _ _ _ wz=>Z_ c b X i xs.length s v W w wz)
   case first =>
    have hXX:=yH.ne nX;have hXb:=yH.neR oT;go_wp2_with fail
    refine(xL b c K2 s v w3 oT nX hm ng).mono ?_;rintro e w4⟨rfl,nU,bT⟩;rw[o7.out]at nU;have qX:=oT.one nX bT;have UY:=yH.fr bT hXX;have fu:=O (dV.out.trans bT);clear oT yH nX bT;cases Z':jl (s.data.toList.drop K2)
    case true =>
     have HE:=O (show j9 xs.length (s.data.toList.drop i)=.ok (⟨W,[],[]⟩,s.data.toList.drop K2)by rw[LB.out,if_pos Z']);go_wp2_with fail
     go_meet
     exact⟨[],[],_,K2,ng,nU,qX,UY,OwnRows.nil _ _ _ _,fu.out,HE.out⟩
    case false =>
     cases hbh:ko (s.data.toList.drop K1)
     case false =>
      have HE:=O (show j9 xs.length (s.data.toList.drop i)=.error 3 by rw[LB.out,if_neg (by rw[Z'];simp),if_pos (by rw[hbh];rfl)]);go_wp2_with fail
      refine(nD b c K2 3 s v w4 qX nU).mono ?_;rintro e w5⟨⟨g,rfl,hg⟩,gH⟩;go_wp2;go_ret;exact mV.bad HE.out (fu.out.trans gH.iC) ⟨g,rfl,hg⟩
     case true =>
      have aaa:=O (show j9 xs.length (s.data.toList.drop i)=match singleR (s.data.toList.drop K2)with
       |some q=>.ok (⟨W,q.1,[]⟩,q.2)
       |none=>match du ((s.data.toList.drop K2).length+1) [] (s.data.toList.drop K2)with
        | .error e=>.error e
        | .ok q=>.ok (⟨W,[],q.1⟩,q.2)by rw[LB.out,if_neg (by rw[Z'];simp),if_neg (by rw[hbh];simp)])
      clear LB;go_wp2_with fail
      refine(Gh b c K2 s v w4 qX nU hs ng).mono ?_;intro e w5 mH;obtain⟨gH,kz⟩:=mH;have FK:=qX.one nU gH;have hX5:=UY.fr gH hXX;have rj:=O (fu.out.trans gH);have x1:=hX5.dM;have xf1:=hX5.free 1;have HS:=O (show∀u:Value,Fr (one X) w5 (w5.setCell ⟨X,1,none⟩ u)from fun u=>(Fr.refl (one X) w5).setCell (p:=⟨X,1,none⟩) (fun _=>rfl) u)
      have uE:=O (show∀u:Value,Fr (one c) w (w5.setCell ⟨X,1,none⟩ u)from fun u=>rj.out.step (HS.out u) (fun k hk e=>by have e':k=X:=e;omega));clear gH;cases hsr:singleR (s.data.toList.drop K2)with
      |some q =>
       obtain⟨tk,z⟩:=q;rw[hsr]at kz;obtain⟨rfl,j,hj,nV,hd5⟩:=kz;have HE:=O (show j9 xs.length (s.data.toList.drop i)=.ok (⟨W,tk,[]⟩,s.data.toList.drop j)by rw[aaa.out,hsr,hd5]);have hX6:fy (w5.setCell ⟨X,1,none⟩ (.string (bA tk))) X (bA W) (bA tk) (.slice none 0 0):=aP hX5 1 _;have CW:=FK.fr (HS.out (.string (bA tk))) (fun e=>hXb (show b=X from e).symm)
       have FN:=nV.fr (HS.out (.string (bA tk))) (fun e=>hXX (show c=X from e).symm);clear hd5;go_wp2_with fail
       go_meet
       exact⟨tk,[],_,j,hj,FN,CW,hX6,OwnRows.nil _ _ _ _,uE.out _,HE.out⟩
      |none =>
       rw[hsr]at kz;obtain⟨rfl,nV⟩:=kz;have HPN:=O (show j9 xs.length (s.data.toList.drop i)=match du ((s.data.toList.drop K2).length+1) [] (s.data.toList.drop K2)with
        | .error e=>.error e
        | .ok q=>.ok (⟨W,[],q.1⟩,q.2)by rw[aaa.out,hsr])
       have hX6:fy (w5.setCell ⟨X,1,none⟩ (.string ⟨#[]⟩)) X (bA W) ⟨#[]⟩ (.slice none 0 0):=aP hX5 1 _;have CW:=FK.fr (HS.out (.string ⟨#[]⟩)) (fun e=>hXb (show b=X from e).symm);have FN:=nV.fr (HS.out (.string ⟨#[]⟩)) (fun e=>hXX (show c=X from e).symm);have zv:=O (uE.out (.string ⟨#[]⟩));clear aaa;go_wp2_with fail
       clear x1 xf1;generalize w5.setCell ⟨X,1,none⟩ (.string ⟨#[]⟩)=w7 at *
       go_loopw[7] (ag8 c b X K2 s v W w) (fun t wr=>match t with| .bool true=>s.size-ki wr c+1|_=>0)
       case atStart=>exact⟨true,[],_,K2,rfl,ng,FN,CW,hX6,OwnRows.nil _ _ _ _,zv.out,by simp,by simp,rfl⟩
       case round =>
        obtain⟨mb,ps,pv,j,rfl,hj,WM,NW,hX8,MW,aW,aot,hpz,hpn⟩:=hrel;have UZ:=O hpn;clear hpn;cases mb
        case false =>
         have HE:=O (show j9 xs.length (s.data.toList.drop i)=.ok (⟨W,[],ps⟩,s.data.toList.drop j)by rw[HPN.out,UZ.out];rfl);go_wp2_with fail
         go_meet
         exact⟨[],ps,pv,j,hj,WM,NW,hX8,MW,aW,HE.out⟩
        case true =>
         have jn:=O (Ci ps (s.data.toList.drop j));have mA:=O WM.pos;have hwr:w.heap.size<=wr.heap.size:=aW.size;go_wp2_with fail
         refine(KG w.heap.size b c X j s v ps (bA W) ⟨#[]⟩ pv wr NW WM hX8 MW hwr hs hj aot hpz).mono ?_;intro e w9 hpp;obtain⟨Up,hpm⟩:=hpp;have hXc:=hX8.ne WM;have S_:=hX8.neR NW;have Pm:pv.ownBlock≠some b:=MW.not NW (by decide);have WN:=NW.fr Up (fun hh=>by
          rcases hh with hh|hh|hh
          ·exact hbc hh
          ·exact S_ hh.symm
          ·exact Pm hh)
         have FO:=O (show Fr (one c) w w9 from aW.step Up (fun k hk hh=>by
          rcases hh with hh|hh|hh
          ·exact hh
          ·omega
          ·have:=MW.block k hh;omega))
         clear Up aW MW hX8 NW;cases sN:fK ps (s.data.toList.drop j)with
         |error n =>
          rw[sN]at hpm;obtain⟨pl,g,rfl,hg⟩:=hpm;have HE:=O (show j9 xs.length (s.data.toList.drop i)=.error n by
           rw[HPN.out,UZ.out,if_pos True.intro,jn.out,sN])
          clear sN;go_wp2_with fail
          go_ret;exact mV.bad HE.out FO.out ⟨g,rfl,hg⟩
         |ok q =>
          obtain⟨p,z⟩:=q;rw[sN]at hpm;obtain⟨rfl,j1,zu,Xn,WO,hd9,hX9,ho9⟩:=hpm;simp only at hd9 ho9;have hle:=nA sN;rw[sN]at jn;have ate:=(Ai sN).2.2;have wO:(s.data.toList.drop j).length<=s.size:=by simp
          have hjj:j<j1:=by
           have e1:z.length=s.size-j1:=by rw[<-hd9];simp
           have e2:(s.data.toList.drop j).length=s.size-j:=by simp
           omega
          have TE:=O (show p.1.length<100000 by omega);clear sN hle wO;go_wp2_with fail
          refine(xL b c j1 s v w9 WN WO hm Xn).mono ?_;rintro e w10⟨rfl,Pn,Gj⟩;have U0:=WN.one WO Gj;have ag_:=hX9.fr Gj hXc;have aab:=ho9.fr Gj (fun k hk e=>by
           obtain rfl:k=c:=e;exact ho9.not WO (by decide) hk)
          have Cj:=O (FO.out.trans Gj);have hbj:=rW (s:=s) Xn;have hbd:=O (jN s j1);rw[hd9]at hbd ⊢;clear Gj WN hX9 ho9 WO;cases Z':jl z
          case false =>
           have HE:=O (show j9 xs.length (s.data.toList.drop i)=.error 3 by
            rw[HPN.out,UZ.out,if_pos True.intro,jn.out];simp only[Z',Bool.false_eq_true,if_false])
           go_wp2_with fail
           refine(nD b c _ 3 s v w10 U0 Pn).mono ?_;rintro e w11⟨⟨g,rfl,hg⟩,G2⟩;go_wp2;go_ret;exact mV.bad HE.out (Cj.out.trans G2.iC) ⟨g,rfl,hg⟩
          case true =>
           go_wp2_with fail
           refine(xK b c _ s v w10 U0 Pn hm hbj).mono ?_;rintro e w11⟨rfl,U1,G2⟩;have HGD:=O (show s.data.toList.drop (aQ jA s.data.toList (cR s j1))=dN z by
            rw[eO,hbd.out];exact n9 z)
           have M1:aQ jA s.data.toList (cR s j1)<=s.size:=by simpa using dC (p:=jA) (l:=s.data.toList) (i:=cR s j1) (by simpa using hbj)
           have SR:j1<=aQ jA s.data.toList (cR s j1):=Nat.le_trans (f_ (p:=bh) (l:=s.data.toList) (i:=j1)) f_;generalize aQ jA s.data.toList (cR s j1)=j2 at *
           have aad:=U0.one Pn G2;have ag':=ag_.fr G2 hXc;have aae:=aab.fr G2 (fun k hk e=>by
            obtain rfl:k=c:=e;exact aab.not Pn (by decide) hk)
           have aov:=O (Cj.out.trans G2);clear G2 U0 ag_ aab Pn;go_wp2_with fail
           refine(Gg b c j2 s v w11 aad U1 hm M1).mono ?_;rintro e w12⟨rfl,aaf,tA⟩;rw[HGD.out];have aha:=aad.one U1 tA;have ahb:=ag'.fr tA hXc;have ahc:=aae.fr tA (fun k hk e=>by
            obtain rfl:k=c:=e;exact aae.not U1 (by decide) hk)
           have ahd:=O (aov.out.trans tA);have Ur:=O (show du ((s.data.toList.drop K2).length+1) [] (s.data.toList.drop K2)=(if gi (dN z)then du ((s.data.toList.drop j2).length+1) (ps++[p]) (s.data.toList.drop j2)else .ok (ps++[p],s.data.toList.drop j2))by
            rw[UZ.out,if_pos True.intro,jn.out];simp only[Z',if_true];rw[HGD.out])
           have ahe:(ps++[p]).length<=16:=by simp;omega
           have ahf:∀q∈ps++[p],q.1.length<100000:=by
            intro q hq;rcases List.mem_append.1 hq with g|g
            ·exact hpz q g
            ·simp at g;subst g;exact TE.out
           clear tA aad ag' aae U1 Z' hd9;cases SW:gi (dN z)
           ·rw[SW]at Ur;go_wp2;go_roundw
            case rel=>exact⟨false,ps++[p],zu,j2,rfl,M1,aaf,aha,ahb,ahc,ahd.out,ahe,ahf,Ur.out⟩
            case measure=>simp
           ·rw[SW]at Ur;go_wp2;go_roundw
            case rel=>exact⟨true,ps++[p],zu,j2,rfl,M1,aaf,aha,ahb,ahc,ahd.out,ahe,ahf,Ur.out⟩
            case measure=>simp only;rw[mA.out,aaf.pos];omega
   case rest =>
   obtain⟨tok,ps,pv,j,hj,nU,qX,UY,MQ,bT,hE⟩:=hcut;have HE:=O hE;clear hE LB nX oT yH;have hXc:=UY.ne nU;have hXb:=UY.neR qX;have SJ:=hv.fr bT (Ch.cur h);obtain⟨rs,ho,ry⟩:=SJ;have qW:=ry.len;subst WV;have MT:(Value.slice av xs.length cv).ownBlock≠some c:=ho.not nU (by decide);have hob:(Value.slice av xs.length cv).ownBlock≠some b:=ho.not qX (by decide)
   have hpc:pv.ownBlock≠some c:=MQ.not nU (by decide);have SX:pv.ownBlock≠some b:=MQ.not qX (by decide);have a_:wc.ownsRow base 88 3 (.slice av xs.length cv) xs.length (rs.map vg).flatten:=by
    have hh:=ho.2;rw[List.length_map,qW]at hh;exact hh
   have uF:c<wc.heap.size:=nU.lt;have WI:b<wc.heap.size:=qX.lt;have hXl:X<wc.heap.size:=UY.lt;have eI:base<=wc.heap.size:=Nat.le_trans hb bT.size;have r2:=qX.ir;have rf2:=qX.free 2;have x0:=UY.cell0;have x1:=UY.dM;have x2:=UY.ir;have hpo:pv.oneCell'=true:=MQ.UU;obtain⟨i0,qD,oZ,iy,gU⟩:=info_parts Pj;have qY:=O (Pg (r:=(bA W,bA tok,pv)) hpo);have HO:=O ho;have HB:=O ry;have HP4:=O MQ
   have h8l:xs.length<8:=by omega
   clear hv ho ry MQ;go_wp2_with fail
   go_region_law ((with_reducible refine jM ⟨some 77,_,_,_,_,_⟩ ?_)
                  refine step_append_lies _ (by rfl) _ _ _ (by rfl) base 88 i0 _ 3 56 Tryz.underlying84 qD oZ iy gU rfl (by omega) (.slice av xs.length cv) xs.length _ (by rfl) (by repeat(first|exact a_|apply World.ownsRow.alloc|apply World.ownsRow.drew)) ⟨wc.heap.size,0,none⟩ 1 1 (vg (bA W,bA tok,pv)) (by rfl) (by rfl) (jo wc (vg (bA W,bA tok,pv)) _) qY.out (by omega) (by unfold maxLen;omega) (by omega) (by simp;omega) (wc.heap.size+1) (by simp) ?_
                  intro gg cap w5 pS gQ NZ Ze
                  have lA:Fr (fun k=>(Value.slice av xs.length cv).ownBlock=some k) wc w5:=Fr.grown (by repeat(first|exact Fr.refl _ _|apply Fr.drew|apply Fr.alloc)) gQ (fun _ hk _=>hk)
                  have k4:w5.cell? ⟨b,2,none⟩=some (.slice av xs.length cv):=(lA.cell (p:=⟨b,2,none⟩) WI hob).trans r2
                  have e4:w5.frozen? ⟨b,2,none⟩=false:=(lA.frozen (p:=⟨b,2,none⟩) WI hob).trans rf2)
   all_goals
    have FK:dQ w5 b c s (.slice av xs.length cv):=qX.fr lA hob;have nV:aU w5 c s j:=nU.fr lA MT;have fa:Fr (one b) w5 (w5.setCell ⟨b,2,none⟩ (.slice (some ⟨gg,0,none⟩) (xs.length+1) cap)):=(Fr.refl (one b) w5).setCell (p:=⟨b,2,none⟩) (fun _=>rfl) _;have CW:dQ (w5.setCell ⟨b,2,none⟩ (.slice (some ⟨gg,0,none⟩) (xs.length+1) cap)) b c s (.slice (some ⟨gg,0,none⟩) (xs.length+1) cap):=aP FK 2 _
    have FN:=nV.fr fa (fun e=>hbc (show c=b from e).symm);have hgb:gg≠b:=by
     rintro rfl;rcases NZ with e|e
     ·exact hob e
     ·omega
    have hel:∀(u:Value) (qs:List ew),OwnRows base 126 2 wc u (qs.map jB)->OwnRows base 126 2 (w5.setCell ⟨b,2,none⟩ (.slice (some ⟨gg,0,none⟩) (xs.length+1) cap)) u (qs.map jB):=by
     intro u qs hu;have h1:OwnRows base 126 2 w5 u (qs.map jB):=hu.fr lA (fun k hk ng=>by
      obtain⟨cur,hcu⟩:=hu.Je hk;obtain⟨awB,ahi⟩:=HO.out.Je ng;rw[hcu]at ahi;simp at ahi)
     exact h1.fr fa (fun k hk e=>by
      obtain rfl:k=b:=e;exact h1.not FK (by decide) hk)
    have FM:OwnRows base 88 3 w5 (.slice (some ⟨gg,0,none⟩) (xs.length+1) cap) ((rs++[(bA W,bA tok,pv)]).map vg):=by
     refine⟨?_,?_⟩
     ·intro y hy;rw[List.map_append]at hy;rcases List.mem_append.1 hy with g|g
      ·exact HO.out.1 y g
      ·simp at g;subst g;exact⟨rfl,qY.out⟩
     ·have e1:((rs++[(bA W,bA tok,pv)]).map vg).length=xs.length+1:=by simp[qW]
      have e2:((rs++[(bA W,bA tok,pv)]).map vg).flatten=(rs.map vg).flatten++vg (bA W,bA tok,pv):=by simp
      rw[e1,e2];exact pS
    have tI:=FM.fr fa (fun k hk e=>hgb (by
     simp only[Value.ownBlock,Option.some.injEq]at hk;rw[hk];exact e))
    have hcs:fP base (w5.setCell ⟨b,2,none⟩ (.slice (some ⟨gg,0,none⟩) (xs.length+1) cap)) (.slice (some ⟨gg,0,none⟩) (xs.length+1) cap) (xs++[⟨W,tok,ps⟩]) :=
     ⟨_,tI,(HB.out.mono (fun r x hr=>⟨hr.1,hr.2.1,hel _ _ hr.2.2⟩)).app (.cons ⟨rfl,rfl,hel _ _ (HP4.out.up hb)⟩ .nil)⟩
    have T_:=O (show Fr (ag7 c b (.slice av xs.length cv)) w (w5.setCell ⟨b,2,none⟩ (.slice (some ⟨gg,0,none⟩) (xs.length+1) cap))from
     ((bT.mono (fun k _ e=>Or.inl e)).trans (lA.mono (fun k _ e=>Or.inr (Or.inr e)))).trans (fa.mono (fun k _ e=>Or.inr (Or.inl e))))
    clear k4 e4 gQ pS a_ lA hel;go_wp2;go_ret;refine⟨T_.out,?_⟩;rw[HE.out];exact⟨rfl,j,_,hj,FN,rfl,CW,hcs⟩
def mg(part:Int)(method:ByteArray)(hs:List dW):Bool:=decide (0<=part)&&(decide (part<4)&&(uN method.data.toList&&(decide (hs.length<=40)&&hs.all fun p=>uN p.1.data.toList)))
def ahm(hs:List dW)(w1:World)(i:Value)(wr:World):Prop :=
 ∃k:Nat,k<=hs.length/\i=.int .i64 k/\(hs.take k).all (fun p=>uN p.1.data.toList)=true/\Fr ay w1 wr
theorem G7(r:dp Value)(hs:List dW)(w:World)(hr:kU w r.cU hs)(hz:AQ r hs) :
  Calls Tryz.prog 106 #[.agg r.cells.toArray] w fun e w'=>e=.returned (.bool (mg r.part r.method hs))/\Fr ay w w':=by
 have di:=O (show mg r.part r.method hs=(decide (0<=r.part)&&(decide (r.part<4)&&(uN r.method.data.toList&&(decide (hs.length<=40)&&hs.all fun p=>uN p.1.data.toList))))from rfl);generalize mg r.part r.method hs=res at di ⊢;obtain⟨wb,eQ⟩:∃wb,wb=w.alloc (.cells r.cells.toArray 29):=⟨_,rfl⟩;have fa:Fr ay w wb:=by rw[eQ];exact(Fr.refl ay w).alloc _
 have gZ:wb.heap[w.heap.size]?=some (.cells r.cells.toArray 29 (0,0)):=by rw[eQ];exact af _ _
 obtain⟨ah,ch,df⟩:=aN.form hr;rw[List.length_map]at df;have nw:r.cells=[.int .i64 r.part,.bool r.aI.ae,.string r.aI.host,.int .i64 r.aI.port,.bool r.o.ae,.string r.o.host,.int .i64 r.o.port,.string r.path,.string r.query,.string r.method,.slice ah hs.length ch,.bool r.bP,.string r.body]:=by unfold dp.cells;rw[df]
 have c0:wb.cell? ⟨w.heap.size,0,none⟩=some (.int .i64 r.part):=by simp only[World.cell?,gZ];rw[nw];rfl
 have c9:wb.cell? ⟨w.heap.size,9,none⟩=some (.string r.method):=by simp only[World.cell?,gZ];rw[nw];rfl
 have FT:wb.cell? ⟨w.heap.size,10,none⟩=some (.slice ah hs.length ch):=by simp only[World.cell?,gZ];rw[nw];rfl
 have hh:=aN.bu hr fa;rw[df]at hh;obtain⟨iy,gU,Jb⟩:=hz;have hlen:(hs.length:Int)<100000:=by omega
 have IS:=O (show∀U,Calls Tryz.prog 70 #[.string r.method] U fun e w'=>e=.returned (.bool (uN r.method.data.toList))/\U=w' from fun U=>xo r.method U (by omega));have HH:=O hh;have HZ:=O Jb;have gS:=O fa;rw[nw]at eQ ⊢;have lq:=O eQ;rw[eQ]at c0 c9 FT;clear hr fa gZ df nw hh Jb eQ;by_cases h0:r.part<0
 ·have HR:=O (show res=false by rw[di.out,decide_eq_false (by omega)];rfl);clear di;go_enter Tryz.func106,Tryz.ntmps106;go_wp2;go_ret;exact⟨by rw[HR.out];rfl,by rw[<-lq.out];exact gS.out⟩
 by_cases h4:r.part>=4
 ·have HR:=O (show res=false by rw[di.out,decide_eq_false (show¬r.part<4 by omega),Bool.false_and,Bool.and_false]);clear di;go_enter Tryz.func106,Tryz.ntmps106;go_wp2;go_ret;exact⟨by rw[HR.out];rfl,by rw[<-lq.out];exact gS.out⟩
 have A1:=O (show res=(uN r.method.data.toList&&(decide (hs.length<=40)&&hs.all fun p=>uN p.1.data.toList))by rw[di.out,decide_eq_true (show 0<=r.part by omega),decide_eq_true (show r.part<4 by omega)];rfl);clear di;go_enter Tryz.func106,Tryz.ntmps106;go_wp2_with fail
 refine(IS.out _).mono ?_;rintro e w2⟨rfl,rfl⟩;cases him:uN r.method.data.toList
 ·have HR:=O (show res=false by rw[A1.out,him];rfl);clear A1;go_wp2;go_ret;exact⟨by rw[HR.out];rfl,by rw[<-lq.out];exact gS.out⟩
 by_cases Bv:(hs.length:Int)>40
 ·have HR:=O (show res=false by rw[A1.out,him,decide_eq_false (show¬hs.length<=40 by omega)];rfl);clear A1;go_wp2;go_ret;exact⟨by rw[HR.out];rfl,by rw[<-lq.out];exact gS.out⟩
 have GW:=O (show res=hs.all (fun p=>uN p.1.data.toList)by rw[A1.out,him,decide_eq_true (show hs.length<=40 by omega)];rfl);clear A1 him iy gU h0 h4 hlen;go_wp2;rw[<-lq.out];go_loopw[28] (ahm hs wb) (fun i _=>hs.length-(intOf i).toNat)
 case atStart=>exact⟨0,Nat.zero_le _,rfl,rfl,Fr.refl _ _⟩
 case round =>
  obtain⟨k,hk,rfl,dy,aW⟩:=hrel;have uR:=O dy;clear dy;by_cases cG:k<hs.length
  ·have lf:(k:Int)<(hs.length:Int):=by omega
   rcases(aN.bu HH.out aW).2 with ⟨_,_,_,e,_⟩|⟨bk,o,c,hf,h1,h2,h3,h4c⟩
   ·have e2:=congrArg List.length e;rw[List.length_map]at e2;have e3:hs.length=0:=e2;omega
   ·rw[List.length_map]at hf h1;cases hf;unfold maxLen at h2;have bC:=O (List.getElem?_eq_getElem cG);have hc:=h4c k _ (by rw[List.getElem?_map,bC.out];rfl);have hd0:=hc 0 _ rfl;have zl:=hc 1 _ rfl;simp only[Nat.add_zero]at hd0;have Jb:(hs[k]).1.size<100000:=(HZ.out _ (List.getElem_mem cG)).1;generalize hs[k]=x at bC hd0 zl Jb
    have IS2:=O (show∀U,Calls Tryz.prog 70 #[.string x.1] U fun e w'=>e=.returned (.bool (uN x.1.data.toList))/\U=w' from fun U=>xo x.1 U (by omega));have xi:=O (aW.alloc (.cells #[.string x.1,.string x.2] 126));clear h4c hc;go_wp2_with fail
    refine(IS2.out _).mono ?_;rintro e w3⟨rfl,rfl⟩;cases hx:uN x.1.data.toList
    ·have HR:=O (show res=false by rw[GW.out];exact sG bC.out hx);clear hx;go_wp2;go_ret;exact⟨by rw[HR.out];rfl,gS.out.trans xi.out⟩
    ·have hn:=O (oC bC.out uR.out hx);clear hx;go_wp2;go_roundw
     case rel=>exact⟨k+1,by omega,by go_num,hn.out,xi.out⟩
     case measure=>simp[intOf];omega
  ·have lf:¬(k:Int)<(hs.length:Int):=by omega
   have HR:=O (show res=true by rw[GW.out];have h:=uR.out;rwa [List.take_of_length_le (by omega)]at h);go_wp2;go_ret;exact⟨by rw[HR.out];rfl,gS.out.trans aW⟩
end Go.Proofs.YtjdmjbdkdmbaiaaGreatDoor
