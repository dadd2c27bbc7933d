/- Rdr3, Target. -/
import Derived.Test.YtjdmjbdkdmbaiaaGreatDoorPk20
import Derived.Deep.AppendLies
set_option maxRecDepth 100000
set_option maxHeartbeats 16000000
set_option linter.unusedSimpArgs false
namespace Go.Proofs.YtjdmjbdkdmbaiaaGreatDoor
open Go.RowKit
def rr(n p:Nat)(e:Ending)(w':World):Prop :=
 ∃g,e=.returned (.iface 122 (.pointer (some ⟨g,0,none⟩)))/\w'.heap[g]?=some (.cells #[.int .i64 n,.int .i64 p] 124 (0,0))
theorem rr.new(n p:Nat)(w:World):rr n p (.returned (.iface 122 (.pointer (some ⟨w.heap.size,0,none⟩)))) (w.alloc (.cells #[.int .i64 n,.int .i64 p] 124 (0,0))):=⟨_,rfl,af _ _⟩
theorem nD(b c i n:Nat)(s:ByteArray)(v:Value)(w:World)(hr:dQ w b c s v)(h:aU w c s i) :
  Calls Tryz.prog 158 #[.pointer (some ⟨b,0,none⟩),.int .i64 n] w fun e w'=>rr n i e w'/\Fr ay w w':=by
 have q0:=hr.cell0;go_enter Tryz.func158,Tryz.ntmps158;go_wp2_with fail
 refine(uM c s i w h).mono ?_;rintro e w1⟨rfl,rfl⟩;go_wp2;go_ret;exact⟨rr.new n i w,(Fr.refl _ _).alloc _⟩
theorem il(l:Bs):(bA l).toList=l:=toList_mk l
def jB(p:ew):List Value:=[.string (bA p.1),.string (bA p.2)]
def fy(w:World)(x:Nat)(sc tok:ByteArray)(pv:Value):Prop:=w.heap[x]?=some (.cells #[.string sc,.string tok,pv] 88 (0,0))
section
variable {w w' : World} {x : Nat} {sc tok : ByteArray} {pv : Value}
theorem fy.cell0(h:fy w x sc tok pv):w.cell? ⟨x,0,none⟩=some (.string sc):=by simp[World.cell?,show w.heap[x]?=_ from h]
theorem fy.dM(h:fy w x sc tok pv):w.cell? ⟨x,1,none⟩=some (.string tok):=by simp[World.cell?,show w.heap[x]?=_ from h]
theorem fy.ir(h:fy w x sc tok pv):w.cell? ⟨x,2,none⟩=some pv:=by simp[World.cell?,show w.heap[x]?=_ from h]
theorem fy.free(h:fy w x sc tok pv)(k:Nat):w.frozen? ⟨x,k,none⟩=false:=by simp[World.frozen?,show w.heap[x]?=_ from h]
theorem fy.fr{S:Nat->Prop}(h:fy w x sc tok pv)(hf:Fr S w w')(hn:¬S x):fy w' x sc tok pv:=hf.keep h hn
theorem fy.lt(h:fy w x sc tok pv):x<w.heap.size:=aj h
theorem fy.ne{c i:Nat}{t:ByteArray}(h:fy w x sc tok pv)(g:aU w c t i):x≠c:=by
 intro e;subst e;have h':w.heap[x]?=_:=h;have g':w.heap[x]?=_:=g;rw[h']at g';simp at g'
theorem fy.neR{b c:Nat}{t:ByteArray}{v:Value}(h:fy w x sc tok pv)(g:dQ w b c t v):x≠b:=by
 intro e;subst e;have h':w.heap[x]?=_:=h;have g':w.heap[x]?=_:=g;rw[h']at g';simp at g'
end
theorem OwnRows.Je{base k:Nat}{e:TypeId}{w:World}{v:Value}{xs:List (List Value)}{g:Nat}(h:OwnRows base e k w v xs)(hg:v.ownBlock=some g):∃cur,w.heap[g]?=some (.cells cur e (0,0)):=by
 rcases h.2.2 with ⟨hv,_⟩|⟨g',cap,cur,hv,_,hh,_⟩
 ·rw[hv]at hg;simp[Value.ownBlock]at hg
 ·rw[hv]at hg;simp[Value.ownBlock]at hg;subst hg;exact⟨cur,hh⟩
theorem OwnRows.not{base k:Nat}{e t:TypeId}{w:World}{v:Value}{xs:List (List Value)}{g:Nat}{cs:Array Value}{f:Nat×Nat}(h:OwnRows base e k w v xs)(hb:w.heap[g]?=some (.cells cs t f))(ht:t≠e):v.ownBlock≠some g:=by
 intro hg;obtain⟨cur,hc⟩:=h.Je hg;rw[hc]at hb;cases hb;exact ht rfl
def ru(w:World)(x:Nat)(a b:ByteArray):Prop:=w.heap[x]?=some (.cells #[.string a,.string b] 126 (0,0))
def BO(c x:Nat)(pv:Value):Nat->Prop:=fun k=>k=c\/k=x\/pv.ownBlock=some k
def jq(base c x i:Nat)(s:ByteArray)(ps:List ew)(sc tok:ByteArray)(pv:Value)(w:World)(e:Ending)(w':World):Prop :=
 Fr (BO c x pv) w w'/\match fK ps (s.data.toList.drop i)with
  | .error n=>∃p,rr n p e w'
  | .ok q=>e=.returned .nilIface/\∃j zu,j<=s.size/\aU w' c s j/\s.data.toList.drop j=q.2/\fy w' x sc tok zu/\OwnRows base 126 2 w' zu ((ps++[q.1]).map jB)
theorem jq.bad{base c x i n p:Nat}{s:ByteArray}{ps:List ew}{sc tok:ByteArray}{pv:Value}{w w':World}{e:Ending}(h:fK ps (s.data.toList.drop i)=.error n)(hf:Fr (BO c x pv) w w')(he:rr n p e w'):jq base c x i s ps sc tok pv w e w':=by
 refine⟨hf,?_⟩;rw[h];exact⟨p,he⟩
theorem BP(s:ByteArray)(i:Nat):s.data.toList.drop (cR s (cR s (CT s i)+1))=iY (s.data.toList.drop i):=by
 unfold iY;rw[<-pQ, <-jN s (CT s i),List.drop_drop,jN]
def Y'(base b c x P i:Nat)(s:ByteArray)(v:Value)(ps:List ew)(sc tok:ByteArray)(pv:Value)(W:Bs)(w wx:World):Prop :=
 ∃val j,j<=s.size/\aU wx c s j/\ru wx P (bA W) (bA val)/\dQ wx b c s v/\fy wx x sc tok pv/\OwnRows base 126 2 wx pv (ps.map jB)/\Fr (BO c x pv) w wx /\
  fK ps (s.data.toList.drop i)=(if nY ps W then .error 9 else if ps.length=16 then .error 4 else .ok ((W,val),s.data.toList.drop j))
theorem KF(l:Bs)(k:Nat):dm l k=(uP (l.drop k)).map fun q=>(q.1,l.length-q.2.length):=by
 unfold dm;rcases Nat.lt_or_ge k l.length with h|h
 ·rw[List.getElem?_eq_getElem h,List.drop_eq_getElem_cons h];show _=Option.map _ (if l[k]==34 then pq (l.drop (k+1))else none);by_cases hq:l[k]=34
  ·rw[hq,if_pos rfl,if_pos (by rfl)];unfold mZ;simp
  ·rw[if_neg (by simpa using hq),if_neg (by simpa using hq)];rfl
 ·rw[List.getElem?_eq_none h,List.drop_eq_nil_of_le h,if_neg (by simp)];rfl
theorem Jf(l:Bs):(bA l).size=l.length:=rfl
def afI(ps:List ew)(W:Bs)(w:World)(t:Value)(wr:World):Prop:=∃k:Nat,k<=ps.length/\t=.int .i64 k/\(ps.take k).any (fun q=>bf q.1 W)=false/\Fr ay w wr
theorem pR{ps:List ew}{k:Nat}{n v W:Bs}(h:ps[k]?=some (n,v))(hn:(ps.take k).any (fun q=>bf q.1 W)=false)(hp:bf n W=false):(ps.take (k+1)).any (fun q=>bf q.1 W)=false:=by
 rw[List.take_add_one,h];simp only[List.any_append,hn,Option.toList_some,List.any_cons,hp,List.any_nil,Bool.or_false]
theorem NT{ps:List ew}{k:Nat}{n v W:Bs}(h:ps[k]?=some (n,v))(hp:bf n W=true):nY ps W=true:=by
 unfold nY;rw[List.any_eq_true];exact⟨_,List.mem_of_getElem? h,hp⟩
theorem DP:(Tryz.prog.info? 126).map (fun i=>(i.zero,i.size,i.bytes))=some (some (.agg #[.string ⟨#[]⟩,.string ⟨#[]⟩]),2,32):=by kernel_rfl
theorem Jg(p:ew):∀u∈jB p,u.oneCell'=true:=by
 intro u hu;simp only[jB,List.mem_cons,List.not_mem_nil,or_false]at hu;rcases hu with rfl|rfl<;>rfl
theorem NU(ps:List ew):∀x∈ps.map jB,x.length=2/\∀u∈x,u.oneCell'=true:=by
 intro x hx;obtain⟨p,_,rfl⟩:=List.mem_map.1 hx;exact⟨rfl,Jg p⟩
theorem rX:∀(f:Nat) (r a z:Bs),r.length<=f->pq r=some (a,z)->z <:+ r
 |0,r,a,z,hf,h=>by
  have:r=[]:=List.eq_nil_of_length_eq_zero (by omega);subst this;rw[pq.eq_def]at h;simp at h
 |f+1,[],a,z,hf,h=>by rw[pq.eq_def]at h;simp at h
 |f+1,x :: r,a,z,hf,h=>by
  rw[pq.eq_def]at h;simp only at h;by_cases h1:(x==34)=true
  ·rw[if_pos h1]at h;cases h;exact List.suffix_cons _ _
  ·rw[if_neg h1]at h;by_cases h2:(x==92)=true
   ·rw[if_pos h2]at h;cases r with
    |nil=>simp at h
    |cons y r' =>
     simp only at h;by_cases h3:iL y=true
     ·rw[if_pos h3]at h;cases hq:pq r' with
      |none=>rw[hq]at h;simp at h
      |some p =>
       rw[hq]at h;simp at h;obtain⟨rfl,rfl⟩:=h;have:=rX f r' p.1 p.2 (by simp at hf;omega) hq;exact(this.trans (List.suffix_cons _ _)).trans (List.suffix_cons _ _)
     ·rw[if_neg h3]at h;simp at h
   ·rw[if_neg h2]at h;by_cases h3:iL x=true
    ·rw[if_pos h3]at h;cases hq:pq r with
     |none=>rw[hq]at h;simp at h
     |some p =>
      rw[hq]at h;simp at h;obtain⟨rfl,rfl⟩:=h;have:=rX f r p.1 p.2 (by simp at hf;omega) hq;exact this.trans (List.suffix_cons _ _)
    ·rw[if_neg h3]at h;simp at h
theorem DQ{z l:Bs}(h:z <:+ l):l.drop (l.length-z.length)=z:=by
 obtain⟨t,rfl⟩:=h;rw[List.length_append,Nat.add_sub_cancel,List.drop_left'];rfl
theorem DS{l a z:Bs}{k:Nat}(h:uP (l.drop k)=some (a,z)):l.drop (l.length-z.length)=z:=by
 refine DQ (List.IsSuffix.trans ?_ (List.drop_suffix k l));cases hd:l.drop k with
 |nil=>rw[hd]at h;cases h
 |cons c t =>
  rw[hd]at h;have h':(if c==34 then pq t else none)=some (a,z):=h;by_cases hc:(c==34)=true
  ·rw[if_pos hc]at h';exact(rX _ t a z (Nat.le_refl _) h').trans (List.suffix_cons _ _)
  ·rw[if_neg hc]at h';cases h'
theorem KG(base b c x i:Nat)(s:ByteArray)(v:Value)(ps:List ew)(sc tok:ByteArray)(pv:Value)(w:World)(hr:dQ w b c s v)(h:aU w c s i)(hx:fy w x sc tok pv)(ho:OwnRows base 126 2 w pv (ps.map jB))(hb:base<=w.heap.size)
  (hs:s.size<100000)(hi:i<=s.size)(hl:ps.length<=16)(hz:∀p∈ps,p.1.length<100000) :
  Calls Tryz.prog 161 #[.pointer (some ⟨b,0,none⟩),.pointer (some ⟨x,0,none⟩)] w (jq base c x i s ps sc tok pv w):=by
 have hm:s.size<=maxLen:=by unfold maxLen;omega
 have hbc:=hr.ne h;have Za:=hx.ne h;have TZ:=hx.neR hr;have MT:pv.ownBlock≠some c:=ho.not h (by decide);have BQ:pv.ownBlock≠some x:=ho.not hx (by decide);have hob:pv.ownBlock≠some b:=ho.not hr (by decide);have q0:=hr.cell0;have HN:=O (DN s i);have HV:=O (BP s i);have hw:=BM hi;have hk:=rW hw;have KH:=(show fK ps (s.data.toList.drop i)=if !gi (s.data.toList.drop i)then .error 3 else
   match kn (iY (s.data.toList.drop i))with
   |none=>.error 3
   |some q=>if nY ps (dB (s.data.toList.drop i))then .error 9 else if ps.length=16 then .error 4 else .ok ((dB (s.data.toList.drop i),q.1),q.2)from rfl)
 have WJ:=O KH;clear KH;have zW:(dB (s.data.toList.drop i)).length<=s.size:=by
  have:=lJ (s.data.toList.drop i);simp at this;omega
 go_enter Tryz.func161,Tryz.ntmps161;go_wp2_with fail
 refine(uM c s i w h).mono ?_;rintro e w0⟨rfl,rfl⟩;go_wp2_with fail
 refine(pC c s i w h hm hi).mono ?_;rintro e w1⟨rfl,kS,bt⟩;replace kS:aU w1 c s (CT s i):=kS;rw[show s.extract i (aQ cP s.data.toList i)=bA (dB (s.data.toList.drop i))from tF s i];generalize dB (s.data.toList.drop i)=W at *
 generalize CT s i=K1 at *
 have sL:=hr.one h bt;have sM:=hx.fr bt Za;have uT:=ho.fr bt (fun k hk e=>MT (by rw[hk];exact congrArg some e));have gV:=O (show Fr (BO c x pv) w w1 from bt.mono (fun k _ e=>Or.inl e));have q1:=sL.cell0;have q1a:∀o:Obj,(w1.alloc o).cell? ⟨b,0,none⟩=some (.pointer (some ⟨c,0,none⟩)):=fun o=>(sL.fr ((Fr.refl ay w1).alloc o) (fun h=>h)).cell0;clear q0 bt;go_wp2_with fail
 obtain⟨wp,Zb⟩:∃wp,wp=w1.alloc (.cells #[.string (bA W),.string ⟨#[]⟩] 126):=⟨_,rfl⟩;have hpp:ru wp w1.heap.size (bA W) ⟨#[]⟩:=by rw[Zb];exact af _ _
 have bq:Fr ay w1 wp:=by rw[Zb];exact(Fr.refl _ _).alloc _
 have kR:=sL.fr bq (fun h=>h);have nW:=kS.fr bq (fun h=>h);have hx2:=sM.fr bq (fun h=>h);have lr:=uT.fr bq (fun _ _ h=>h);have dk:=O (gV.out.trans bq.iC);have q2:=kR.cell0;rw[<-Zb];generalize hP:w1.heap.size=P at *
 have T3:P≠c:=by intro e;have:=kS.lt;omega
 have hPx:P≠x:=by intro e;have:=sM.lt;omega
 have hPb:P≠b:=by intro e;have:=sL.lt;omega
 have hPw:w.heap.size<=P:=by have:=gV.out.size;omega
 have avI:P<wp.heap.size:=aj hpp;have hoP:pv.ownBlock≠some P:=fun e=>by have:=uT.lt P e;omega
 clear q1 q1a Zb bq;refine(gY c s K1 wp nW hm hw).mono ?_;rintro e w3⟨rfl,nX,dv⟩;replace nX:aU w3 c s (cR s K1):=nX;generalize cR s K1=K2 at *
 have oT:=kR.one nW dv;have CU:=hx2.fr dv Za;have rR:=lr.fr dv (fun k hk e=>MT (by rw[hk];exact congrArg some e));have Y6:ru w3 P (bA W) ⟨#[]⟩:=dv.keep hpp T3;have dV:=O (dk.out.trans (dv.mono (fun k _ e=>Or.inl e)));have q3:=oT.cell0;have p0:w3.cell? ⟨P,0,none⟩=some (.string (bA W)):=by simp[World.cell?,show w3.heap[P]?=_ from Y6]
 clear q2 dv sL sM uT kR hx2 lr hpp kS nW;cases Jh:W.isEmpty
 case true =>
  have CV:(bA W).toList=[]:=by rw[il];exact List.isEmpty_iff.1 Jh
  have wJ:((bA W).toList== [])=true:=beq_iff_eq.2 CV;rw[Jh]at HN;have HE:=O (show fK ps (s.data.toList.drop i)=.error 3 by rw[WJ.out,HN.out];rfl);go_wp2_with fail
  refine(nD b c K2 3 s v w3 oT nX).mono ?_;rintro e w4⟨⟨g,rfl,hg⟩,bT⟩;go_wp2;go_ret;exact jq.bad HE.out (dV.out.trans bT.iC) ⟨g,rfl,hg⟩
 case false =>
  have CV:¬(bA W).toList=[]:=by rw[il];intro e;rw[e]at Jh;cases Jh
  have wJ:((bA W).toList== [])=false:=beq_eq_false_iff_ne.2 CV;have HN2:=O (show gi (s.data.toList.drop i)=eT s K2 61 by rw[HN.out,Jh];rfl);clear HN Jh;go_wp2_with fail
  refine(kF c s K2 61 w3 nX hm).mono ?_;rintro e w4⟨rfl,nU,bT⟩;have qX:=oT.one nX bT;have T4:=CU.fr bT Za;have MQ:=rR.fr bT (fun k hk e=>MT (by rw[hk];exact congrArg some e));have hp4:ru w4 P (bA W) ⟨#[]⟩:=bT.keep Y6 T3;have fu:=O (dV.out.trans (bT.mono (fun k _ e=>Or.inl e)));have q4:=qX.cell0;have p0:w4.cell? ⟨P,0,none⟩=some (.string (bA W)):=by simp[World.cell?,show w4.heap[P]?=_ from hp4]
  clear q3 bT oT CU rR Y6 nX;cases I2:eT s K2 61
  ·have HE:=O (show fK ps (s.data.toList.drop i)=.error 3 by rw[WJ.out,HN2.out,I2];rfl);rw[kh I2]at nU;go_wp2_with fail
   refine(nD b c K2 3 s v w4 qX nU).mono ?_;rintro e w5⟨⟨g,rfl,hg⟩,gH⟩;go_wp2;go_ret;exact jq.bad HE.out (fu.out.trans gH.iC) ⟨g,rfl,hg⟩
  ·rw[kg I2]at nU;rw[HN2.out,I2]at WJ;have ng:K2+1<=s.size:=by
    have:=(List.getElem?_eq_some_iff.1 ((qC s K2 61).1 I2)).1;have h2:K2<s.size:=by simpa using this
    omega
   go_wp2_with fail
   refine(gY c s (K2+1) w4 nU hm ng).mono ?_;rintro e w5⟨rfl,nV,gH⟩;replace nV:aU w5 c s (cR s (K2+1)):=nV;have BR:=rW ng;generalize cR s (K2+1)=K3 at *
   rw[<-HV.out]at WJ;have FK:=qX.one nU gH;have hx5:=T4.fr gH Za;have FM:=MQ.fr gH (fun k hk e=>MT (by rw[hk];exact congrArg some e));have hp5:ru w5 P (bA W) ⟨#[]⟩:=gH.keep hp4 T3;have rj:=O (fu.out.trans (gH.mono (fun k _ e=>Or.inl e)));have q5:=FK.cell0;clear q4 p0 gH qX T4 MQ hp4 nU;go_wp2_with fail
   refine(pC c s K3 w5 nV hm BR).mono ?_;rintro e w6⟨rfl,FN,jz⟩;replace FN:aU w6 c s (CT s K3):=FN;rw[show s.extract K3 (aQ cP s.data.toList K3)=bA (dB (s.data.toList.drop K3))from tF s K3];have MU:=BM BR
   have HVR:=O (show kn (s.data.toList.drop K3)=if(dB (s.data.toList.drop K3)).isEmpty then uP (s.data.toList.drop K3)else some (dB (s.data.toList.drop K3),s.data.toList.drop (CT s K3))by unfold kn;rw[pQ]);have HK4:=O (show(dB (s.data.toList.drop K3)).isEmpty=true->CT s K3=K3 from fun e=>by
    unfold CT aQ;have e2:(List.takeWhile cP (s.data.toList.drop K3))=[]:=List.isEmpty_iff.1 e;rw[e2];rfl)
   generalize dB (s.data.toList.drop K3)=V at *
   generalize CT s K3=K4 at *
   have CW:=FK.one nV jz;have hx6:=hx5.fr jz Za;have tI:=FM.fr jz (fun k hk e=>MT (by rw[hk];exact congrArg some e));have WK:ru w6 P (bA W) ⟨#[]⟩:=jz.keep hp5 T3;have uE:=O (rj.out.trans (jz.mono (fun k _ e=>Or.inl e)));have p1:w6.cell? ⟨P,1,none⟩=some (.string ⟨#[]⟩):=by simp[World.cell?,show w6.heap[P]?=_ from WK]
   have f1:w6.frozen? ⟨P,1,none⟩=false:=by simp[World.frozen?,show w6.heap[P]?=_ from WK]
   clear q5 jz FK hx5 FM hp5 nV
   go_upto_if 52 with fail
   have Gi:∀u:ByteArray,ru (w6.setCell ⟨P,1,none⟩ (.string u)) P (bA W) u:=fun u=>aP WK 1 (.string u);have Al:∀u:Value,Fr (one P) w6 (w6.setCell ⟨P,1,none⟩ u):=fun u=>(Fr.refl (one P) w6).setCell (p:=⟨P,1,none⟩) (fun _=>rfl) u;have zv:=O (show∀u:Value,Fr (BO c x pv) w (w6.setCell ⟨P,1,none⟩ u)from fun u=>uE.out.step (Al u) (fun k hk e=>by have e':k=P:=e;omega))
   have HS:=O (show∀u:Value,dQ (w6.setCell ⟨P,1,none⟩ u) b c s v/\aU (w6.setCell ⟨P,1,none⟩ u) c s K4/\fy (w6.setCell ⟨P,1,none⟩ u) x sc tok pv/\OwnRows base 126 2 (w6.setCell ⟨P,1,none⟩ u) pv (ps.map jB)from fun u =>
    ⟨CW.fr (Al u) (fun e=>hPb (show b=P from e).symm),FN.fr (Al u) (fun e=>T3 (show c=P from e).symm),hx6.fr (Al u) (fun e=>hPx (show x=P from e).symm),tI.fr (Al u) (fun k hk e=>hoP (by rw[hk];exact congrArg some e))⟩)
   go_cut [] (fun wx=>Y' base b c x P i s v ps sc tok pv W w wx)
   case first =>
    obtain⟨MV,T5,Zc,T6⟩:=HS.out (.string (bA V));have T7:=Gi (bA V);cases WL:V.isEmpty
    case false =>
     have FG:¬(bA V).toList=[]:=by rw[il];intro e;rw[e]at WL;cases WL
     have hv2:((bA V).toList== [])=false:=beq_eq_false_iff_ne.2 FG;have xr:(bA V).toList.isEmpty=false:=by rw[il];exact WL
     have NV:=O (show kn (s.data.toList.drop K3)=some (V,s.data.toList.drop K4)by rw[HVR.out,WL];rfl);rw[xr];go_wp2_with fail
     go_meet
     refine⟨V,K4,MU,T5,T7,MV,Zc,T6,zv.out _,?_⟩;rw[WJ.out,NV.out];rfl
    case true =>
     have xr:(bA V).toList.isEmpty=true:=by rw[il];exact WL
     have hK4:=HK4.out WL;subst hK4;have q7:=MV.cell0;have p71:(w6.setCell ⟨P,1,none⟩ (.string (bA V))).cell? ⟨P,1,none⟩=some (.string (bA V)):=by simp[World.cell?,show(w6.setCell ⟨P,1,none⟩ (.string (bA V))).heap[P]?=_ from T7]
     rw[xr];go_wp2_with fail
     refine(FY c s K4 _ T5 (by omega)).mono ?_;intro e w8 hq;have HQA:=O (KF s.data.toList K4);cases hqr:uP (s.data.toList.drop K4)with
     |none =>
      have hqa:dm s.data.toList K4=none:=by rw[HQA.out,hqr];rfl
      obtain⟨rfl,WM,mO⟩:=hq.isNone hqa;have NV:=O (show kn (s.data.toList.drop K4)=none by rw[HVR.out,WL];exact hqr);have NW:=MV.one T5 mO;have hp8:ru w8 P (bA W) (bA V):=mO.keep T7 T3;have KI:=O ((zv.out (.string (bA V))).trans (mO.mono (fun k _ e=>Or.inl e)));have xN:Fr (one P) w8 (w8.setCell ⟨P,1,none⟩ (.string ⟨#[]⟩)):=(Fr.refl (one P) w8).setCell (p:=⟨P,1,none⟩) (fun _=>rfl) _
      have WN:=NW.fr xN (fun e=>hPb (show b=P from e).symm);have WO:=WM.fr xN (fun e=>T3 (show c=P from e).symm);have FO:=O (show Fr (BO c x pv) w (w8.setCell ⟨P,1,none⟩ (.string ⟨#[]⟩))from KI.out.step xN (fun k hk e=>by have e':k=P:=e;omega));have q8:=NW.cell0;have q9:=WN.cell0;have p8:w8.cell? ⟨P,1,none⟩=some (.string (bA V)):=by simp[World.cell?,show w8.heap[P]?=_ from hp8]
      have f8:w8.frozen? ⟨P,1,none⟩=false:=by simp[World.frozen?,show w8.heap[P]?=_ from hp8]
      clear q7 p71 hq mO xN;go_wp2_with fail
      refine(nD b c K4 3 s v _ WN WO).mono ?_;rintro e w10⟨⟨g,rfl,hg⟩,Gj⟩;go_wp2;go_ret;exact jq.bad (by rw[WJ.out,NV.out];rfl) (FO.out.trans Gj.iC) ⟨g,rfl,hg⟩
     |some q =>
      obtain⟨a,z⟩:=q;have hqa:dm s.data.toList K4=some (a,s.data.toList.length-z.length):=by rw[HQA.out,hqr];rfl
      obtain⟨rfl,WM,mO⟩:=hq.isOk hqa;have NV:=O (show kn (s.data.toList.drop K4)=some (a,z)by rw[HVR.out,WL];exact hqr);have T8:=O (DS hqr);have NW:=MV.one T5 mO;have hx8:=Zc.fr mO Za;have MW:=T6.fr mO (fun k hk e=>MT (by rw[hk];exact congrArg some e));have hp8:ru w8 P (bA W) (bA V):=mO.keep T7 T3;have KI:=O ((zv.out (.string (bA V))).trans (mO.mono (fun k _ e=>Or.inl e)))
      have xN:Fr (one P) w8 (w8.setCell ⟨P,1,none⟩ (.string (bA a))):=(Fr.refl (one P) w8).setCell (p:=⟨P,1,none⟩) (fun _=>rfl) _;have WN:=NW.fr xN (fun e=>hPb (show b=P from e).symm);have WO:=WM.fr xN (fun e=>T3 (show c=P from e).symm);have hx9:=hx8.fr xN (fun e=>hPx (show x=P from e).symm);have ho9:=MW.fr xN (fun k hk e=>hoP (by rw[hk];exact congrArg some e))
      have hp9:ru (w8.setCell ⟨P,1,none⟩ (.string (bA a))) P (bA W) (bA a):=aP hp8 1 (.string (bA a));have FO:=O (show Fr (BO c x pv) w (w8.setCell ⟨P,1,none⟩ (.string (bA a)))from KI.out.step xN (fun k hk e=>by have e':k=P:=e;omega));have p8:w8.cell? ⟨P,1,none⟩=some (.string (bA V)):=by simp[World.cell?,show w8.heap[P]?=_ from hp8]
      have f8:w8.frozen? ⟨P,1,none⟩=false:=by simp[World.frozen?,show w8.heap[P]?=_ from hp8]
      clear q7 p71 hq mO xN;go_wp2_with fail
      go_meet
      refine⟨a,_,?_,WO,hp9,WN,hx9,ho9,FO.out,?_⟩
      ·simp
      ·rw[WJ.out,NV.out,show s.data.toList.drop (s.data.toList.length-z.length)=z from T8.out];rfl
   case rest =>
   obtain⟨val,j,hj,T5,T7,MV,Zc,T6,jC,sN⟩:=hcut;have KJ:=O sN;have T9:=O jC;clear WJ sN jC HVR HK4 Gi Al zv HS CW hx6 tI WK FN p1 f1;have NX:w.heap.size<=wc.heap.size:=T9.out.size;have eI:base<=wc.heap.size:=Nat.le_trans hb NX;have MP:=T6.form;obtain⟨av,cv,afM⟩:=MP;rw[List.length_map]at afM;subst afM;have gG:=T6.at;have x2:=Zc.ir;have xf2:=Zc.free 2
   have p0:wc.cell? ⟨P,0,none⟩=some (.string (bA W)):=by simp[World.cell?,show wc.heap[P]?=_ from T7]
   have p1:wc.cell? ⟨P,1,none⟩=some (.string (bA val)):=by simp[World.cell?,show wc.heap[P]?=_ from T7]
   have HPA:=O (show∀U,Fr ay wc U->U.cell? ⟨P,0,none⟩=some (.string (bA W))/\U.cell? ⟨P,1,none⟩=some (.string (bA val))/\U.cell? ⟨x,2,none⟩=some (.slice av ps.length cv)/\U.frozen? ⟨x,2,none⟩=false from fun U hU=>by
    have j1:=hU.keep T7 (fun h=>h);have j2:=Zc.fr hU (fun h=>h);exact⟨by simp[World.cell?,j1],by simp[World.cell?,j1],j2.ir,j2.free 2⟩)
   go_wp2_with fail
   go_loopw[71] (afI ps W wc) (fun t _=>ps.length-(intOf t).toNat)
   case atStart=>exact⟨0,Nat.zero_le _,rfl,rfl,Fr.refl _ _⟩
   case round =>
    obtain⟨k,hkl,rfl,hn,aW⟩:=hrel;have HN:=O hn;clear hn p0 p1 x2 xf2;obtain⟨p0,p1,x2,xf2⟩:=HPA.out wr aW;by_cases cG:k<ps.length
    ·have lf:(k:Int)<(ps.length:Int):=by omega
     have bC:=O (List.getElem?_eq_getElem cG);have KK:=hz _ (List.getElem_mem cG);generalize ps[k]=q at bC KK;obtain⟨nm,vl⟩:=q;rcases(aN.bu gG aW).2 with ⟨_,_,_,e,_⟩|⟨bk,of,c',bt,h1,h2,h3,h4⟩
     ·have:ps.length=0:=by have:=congrArg List.length e;simpa using this
      omega
     rw[List.length_map]at bt h1;cases bt;unfold maxLen at h2;have hcell:=h4 k (jB (nm,vl)) (by rw[List.getElem?_map,bC.out];rfl);have c0:wr.cell? ⟨bk,of+k*2,none⟩=some (.string (bA nm)):=hcell 0 _ rfl;have c1:wr.cell? ⟨bk,of+k*2+1,none⟩=some (.string (bA vl)):=hcell 1 _ rfl;clear hcell h4;obtain⟨wb,eQ⟩:∃wb,wb=wr.alloc (.cells #[.string (bA nm),.string (bA vl)] 126):=⟨_,rfl⟩
     have fa:Fr ay wr wb:=by rw[eQ];exact(Fr.refl ay wr).alloc _
     have p0a:∀o:Obj,(wr.alloc o).cell? ⟨P,0,none⟩=some (.string (bA W)):=fun o=>(HPA.out _ (aW.alloc o)).1;have lq:=O eQ;have gS:=O (aW.trans fa);clear eQ fa;go_wp2_with fail
     rw[<-lq.out];refine(gX (bA nm) (bA W) wb (by rw[Jf];have avN:nm.length<100000:=KK;omega) (by rw[Jf];omega)).mono ?_;rintro e w8⟨rfl,mO⟩;rw[cN,cN];have KI:=O (gS.out.trans mO);cases kz:bf nm W
     ·have kT:=O (show(ps.take (k+1)).any (fun q=>bf q.1 W)=false from pR bC.out HN.out kz);go_wp2;go_roundw
      case rel=>exact⟨k+1,by omega,by go_num,kT.out,KI.out⟩
      case measure=>simp[intOf];omega
     ·have HE:=O (show fK ps (s.data.toList.drop i)=.error 9 by rw[KJ.out,if_pos (NT bC.out kz)]);go_wp2;go_ret;exact jq.bad HE.out ((T9.out.trans KI.out.iC).alloc _) (rr.new 9 i w8)
    ·have lf:¬(k:Int)<(ps.length:Int):=by omega
     have HT:=O (show nY ps W=false by have h:=HN.out;rw[List.take_of_length_le (by omega)]at h;exact h);rw[HT.out]at KJ;by_cases Zd:ps.length=16
     ·have afN:((ps.length:Int)==16)=true:=by rw[Zd];rfl
      have HE:=O (show fK ps (s.data.toList.drop i)=.error 4 by rw[KJ.out,if_pos Zd];rfl);clear Zd;go_wp2;go_ret;exact jq.bad HE.out ((T9.out.trans aW.iC).alloc _) (rr.new 4 i wr)
     ·have afN:((ps.length:Int)==16)=false:=beq_eq_false_iff_ne.2 (by omega);have HE:=O (show fK ps (s.data.toList.drop i)=.ok ((W,val),s.data.toList.drop j)by rw[KJ.out,if_neg Zd];rfl);have NY:=T9.out.trans (aW.iC (S:=BO c x (.slice av ps.length cv)));have hcr:=T5.fr aW (fun h=>h);have hxr:=Zc.fr aW (fun h=>h);have hor:=T6.fr aW (fun _ _ h=>h);have hbr:base<=wr.heap.size:=Nat.le_trans eI aW.size
      have a_:wr.ownsRow base 126 2 (.slice av ps.length cv) ps.length (ps.map jB).flatten:=by
       have hh:=hor.2;rw[List.length_map]at hh;exact hh
      have hPl:P<wr.heap.size:=Nat.lt_of_lt_of_le (aj T7) aW.size;have j_:x<wr.heap.size:=hxr.lt;have uF:c<wr.heap.size:=hcr.lt;obtain⟨i0,qD,oZ,iy,gU⟩:=info_parts DP;have qY:=O (show∀u∈jB (W,val),u.oneCell'=true from Jg _);have hps:ps.length<16:=by omega
      clear afN gG hz HN;go_wp2_with fail
      go_region_law ((with_reducible refine jM ⟨some 102,_,_,_,_,_⟩ ?_)
                     refine step_append_lies _ (by rfl) _ _ _ (by rfl) base 126 i0 _ 2 32 Tryz.underlying27 qD oZ iy gU rfl (by omega) (.slice av ps.length cv) ps.length _ (by rfl) (by repeat(first|exact a_|apply World.ownsRow.alloc|apply World.ownsRow.drew)) ⟨wr.heap.size,0,none⟩ 1 1 (jB (W,val)) (by rfl) (by rfl) (jo wr (jB (W,val)) _) qY.out (by omega) (by unfold maxLen;omega) (by omega) (by simp;omega) (wr.heap.size+1) (by simp) ?_
                     intro gg cap w5 pS gQ NZ Ze
                     have lA:Fr (fun k=>(Value.slice av ps.length cv).ownBlock=some k) wr w5:=Fr.grown (by repeat(first|exact Fr.refl _ _|apply Fr.drew|apply Fr.alloc)) gQ (fun _ hk _=>hk)
                     have k4:w5.cell? ⟨x,2,none⟩=some (.slice av ps.length cv):=(lA.cell (p:=⟨x,2,none⟩) j_ BQ).trans x2
                     have e4:w5.frozen? ⟨x,2,none⟩=false:=(lA.frozen (p:=⟨x,2,none⟩) j_ BQ).trans xf2)
      all_goals
       have hx5:fy w5 x sc tok (.slice av ps.length cv):=hxr.fr lA BQ;have nV:aU w5 c s j:=hcr.fr lA MT;have Dm:Fr (one x) w5 (w5.setCell ⟨x,2,none⟩ (.slice (some ⟨gg,0,none⟩) (ps.length+1) cap)):=(Fr.refl (one x) w5).setCell (p:=⟨x,2,none⟩) (fun _=>rfl) _;have hx6:fy (w5.setCell ⟨x,2,none⟩ (.slice (some ⟨gg,0,none⟩) (ps.length+1) cap)) x sc tok (.slice (some ⟨gg,0,none⟩) (ps.length+1) cap):=aP hx5 2 _
       have FN:=nV.fr Dm (fun e=>Za (show c=x from e).symm);have hgx:gg≠x:=by
        rintro rfl;rcases NZ with e|e
        ·exact BQ e
        ·omega
       have FM:OwnRows base 126 2 w5 (.slice (some ⟨gg,0,none⟩) (ps.length+1) cap) ((ps++[(W,val)]).map jB):=by
        refine⟨NU _,?_⟩;have e1:((ps++[(W,val)]).map jB).length=ps.length+1:=by simp
        have e2:((ps++[(W,val)]).map jB).flatten=(ps.map jB).flatten++jB (W,val):=by simp
        rw[e1,e2];exact pS
       have tI:=FM.fr Dm (fun k hk e=>hgx (by
        simp only[Value.ownBlock,Option.some.injEq]at hk;rw[hk];exact e))
       have T_:=O (show Fr (BO c x (.slice av ps.length cv)) w (w5.setCell ⟨x,2,none⟩ (.slice (some ⟨gg,0,none⟩) (ps.length+1) cap))from
        (NY.trans (lA.mono (fun k _ e=>Or.inr (Or.inr e)))).trans (Dm.mono (fun k _ e=>Or.inr (Or.inl e))))
       clear k4 e4 gQ pS a_ lA;go_wp2;go_ret;refine⟨T_.out,?_⟩;rw[HE.out];exact⟨rfl,j,_,hj,FN,rfl,hx6,tI⟩
theorem GC(o:cO)(path query:ByteArray)(w:World)(h1:path.size<100000)(h2:query.size<100000) :
  Calls Tryz.prog 110 #[.agg #[.bool o.ae,.string o.host,.int .i64 o.port,.string path,.string query]] w fun e w'=>e=.returned (.string (iZ path query))/\Fr ay w w':=by
 by_cases h0:query.size=0
 ·have HT:=O (show iZ path query=path by unfold iZ;rw[if_pos h0]);have t1:query.toList=[]:=by rw[ByteArray.toList_eq];exact dw.2 h0
  have t2:query.toList.isEmpty=true:=by rw[t1];rfl
  go_enter Tryz.func110,Tryz.ntmps110;go_wp2;go_ret;exact⟨by rw[HT.out];rfl,(Fr.refl ay w).alloc _⟩
 ·have HT:=O (show iZ path query=(path++⟨#[63]⟩)++query by unfold iZ;rw[if_neg h0]);have t1:¬query.toList=[]:=by rw[ByteArray.toList_eq];exact fun h=>h0 (dw.1 h)
  have t2:query.toList.isEmpty=false:=by simpa using t1
  go_enter Tryz.func110,Tryz.ntmps110;go_wp2;go_ret;exact⟨by rw[HT.out];rfl,(Fr.refl ay w).alloc _⟩
end Go.Proofs.YtjdmjbdkdmbaiaaGreatDoor
