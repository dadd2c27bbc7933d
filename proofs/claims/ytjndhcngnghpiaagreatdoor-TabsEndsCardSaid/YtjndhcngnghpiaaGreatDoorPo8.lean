/- Lemmas for the law's walk. -/
import Derived.Test.YtjndhcngnghpiaaGreatDoorPo7
import Derived.Lib.ItoaLen
set_option maxRecDepth 100000
set_option maxHeartbeats 16000000
set_option linter.unusedSimpArgs false
namespace Go.Proofs.YtjndhcngnghpiaaGreatDoor
open Go.Proofs.Tryz
open Go.RowKit Go.Sort
variable {k base n i g j c:Nat} {w w':World} {v u:Value} {ss:List ai} {r z:Bs} {ps:List jh} {p:jh} {S:dz} {l:aH} {s:ai}
abbrev gU:=ai×ai
def gU.cells(p:gU):aX:=[.string p.1,.string p.2]
def ox(w:World)(v:Value)(ps:List gU):Prop:=eb 2 w v (ps.map gU.cells)
def sK(s:ai):ai:=⟨(nd s.data.toList).toArray⟩
def vw(ps:List gU):List ai:=(ps.filter fun p=>!lM p.1 p.2).map fun p=>sK p.1
def Ic(ps:List gU):List ai:=(ps.filter fun p=>lM p.1 p.2).map fun p=>sK p.1
def nB(ps:List gU):Nat:=((ps.filter fun p=>lM p.1 p.2).map fun p=>p.2.size).sum
def Gt(ps:List gU):List ai:=vw ps++(if 1024<nB ps then Ic ps else [])
def abj(ps:List gU):List (aH):=Lib.compact (tU ((Gt ps).map fun s=>s.data.toList))
def xF(ps:List gU):List ai:=(abj ps).map fun l=>⟨l.toArray⟩
theorem Gu(ps:List gU)(p:gU)(h:lM p.1 p.2=false):vw (ps++[p])=vw ps++[sK p.1]/\Ic (ps++[p])=Ic ps/\nB (ps++[p])=nB ps:=by
 unfold vw Ic nB;simp[cE,h]
theorem Ei(ps:List gU)(p:gU)(h:lM p.1 p.2=true):vw (ps++[p])=vw ps/\Ic (ps++[p])=Ic ps++[sK p.1]/\nB (ps++[p])=nB ps+p.2.size:=by
 unfold vw Ic nB;simp[cE,h]
theorem Xa(ps:List gU):(vw ps).length<=ps.length:=by unfold vw;rw[aj];exact bR _ _
theorem abk(ps:List gU):(Ic ps).length<=ps.length:=by unfold Ic;rw[aj];exact bR _ _
theorem Jh{a b:ai}(h:lM a b=true):b.size<=128:=by
 unfold lM at h;split at h
 ·cases h
 ·omega
theorem ZG:∀ps:List gU,nB ps<=128*ps.length
 |[]=>by simp[nB]
 |p :: ps=>by
  have ih:=ZG ps;unfold nB at ih ⊢;rw[List.filter_cons];split
  ·rename_i h;have:=Jh h;simp only[cz,List.sum_cons,List.length_cons];omega
  ·simp only[List.length_cons];omega
theorem Pt{α:Type}{l:List α}{x:α}(h:l[k]?=some x):l.take (k+1)=l.take k++[x]:=by
 rw[ct,h];rfl
def vy(u v:Value):Prop:=∀k,u.ownBlock=some k->v.ownBlock≠some k
def afc(ps:List gU)(w:World)(out plain n i:Value)(wr:World):Prop :=
 ∃k:Nat,k<=ps.length/\i=.int .i64 k/\n=.int .i64 (nB (ps.take k))/\Strs w.heap.size wr out (vw (ps.take k))/\Strs w.heap.size wr plain (Ic (ps.take k))/\vy out plain/\Fr aW w wr
theorem Strs.lt(h:Strs base w v ss):∀k,v.ownBlock=some k->base<=k/\k<w.heap.size:=World.ownsRow.lt h
theorem Strs.kept{row:Option Nat}(h:Strs base w v ss)(hg:w.grownBy w' row)(hne:∀k,row=some k->v.ownBlock≠some k):Strs base w' v ss:=by
 refine World.ownsRow.kept h hg ?_;cases hv:v.ownBlock with
 |none=>exact Or.inl rfl
 |some k=>exact Or.inr fun e=>hne k e.symm hv
theorem vy.sep{v2:Value}(h:vy u v)(hs:Sep w v v2)(hu:Strs base w u ss):vy u v2:=by
 intro k hk e;rcases hs with hs|hs
 ·rw[hs]at e;exact h k hk e
 ·have h1:=hs k e;have h2:=(hu.lt k hk).2;omega
theorem vy.symm(h:vy u v):vy v u:=fun k hv hu=>h k hu hv
theorem SC(ss:List ai):ss.map Value.string=(ss.map fun s=>s.data.toList).map encStr:=by
 rw[g_];rfl
def SD(ls:List (aH)):List ai:=ls.map fun l=>⟨l.toArray⟩
theorem Gv(ls:List (aH)):(SD ls).map Value.string=ls.map encStr:=by unfold SD;rw[g_];rfl
theorem EW(base:Nat)(v:Value)(ss:List ai)(w:World)(h:Strs base w v ss)(hl:ss.length<1000000) :
  aC 183 #[v] w fun e w'=>e=.returned (.tuple #[])/\Strs base w' v (SD (tU (ss.map fun s=>s.data.toList)))/\w.grownBy w' v.ownBlock:=by
 have h2:w.ownsRow base 9 1 v (ss.map fun s=>s.data.toList).length ((ss.map fun s=>s.data.toList).map encStr):=by
  rw[<-SC,aj];exact h
 refine(SA base v _ w h2 (by rw[aj];exact hl)).mono ?_;rintro e w'⟨he,ho,hg⟩;refine⟨he,?_,hg⟩;unfold Strs;rw[Gv,show(SD (tU (ss.map fun s=>s.data.toList))).length=(ss.map fun s=>s.data.toList).length from by unfold SD tU;simp];exact ho
theorem yF(base:Nat)(v:Value)(ls:List (aH))(w:World)(h:Strs base w v (SD ls))(hl:ls.length<1000000) :
  aC 184 #[v] w fun e w'=>∃u,e=.returned u/\Strs base w' u (SD (Lib.compact ls))/\w.grownBy w' v.ownBlock:=by
 have e1:(SD ls).length=ls.length:=by unfold SD;simp
 have h2:w.ownsRow base 9 1 v ls.length (ls.map encStr):=by
  rw[<-Gv, <-e1];exact h
 refine(Jf base v ls w h2 hl).mono ?_;rintro e w'⟨u,he,ho,hg⟩;refine⟨u,he,?_,hg⟩;unfold Strs;rw[Gv,show(SD (Lib.compact ls)).length=(Lib.compact ls).length from by unfold SD;simp];exact ho
theorem EX(ps:List gU)(v:Value)(w:World)(h:ox w v ps)(hl:ps.length<100000)(hz:∀p∈ps,p.1.size<100000/\p.2.size<100000) :
  aC 128 #[v] w fun e w'=>∃u,e=.returned u/\Strs w.heap.size w' u (xF ps)/\Fr aW w w':=by
 obtain⟨av,cv,hv⟩:=h.form;rw[aj]at hv;have HZ:=O hz;clear hz;subst hv;go_enter func128,ntmps128;go_wp2;go_loopw[3,4,5,11] (afc ps w) (fun _ _ _ i _=>ps.length-(intOf i).toNat)
 case atStart=>exact⟨0,aS _,rfl,rfl,kD _ _,kD _ _,fun k e=>by simp[Value.ownBlock]at e,ae _ _⟩
 case round =>
  obtain⟨k,hk,rfl,rfl,ho,hp,Xb,cN⟩:=hrel;obtain⟨ao,co,Pu⟩:=ho.form;obtain⟨ap,cp,hpe⟩:=hp.form;have hn:=ZG (ps.take k);rw[aL]at hn;have Rz:=Xa (ps.take k);have D7:=abk (ps.take k);rw[aL]at Rz D7;by_cases fx:k<ps.length
  ·have qp:(k:Int)<(ps.length:Int):=ab;have dL:=O (List.getElem?_eq_getElem fx);have xx:=HZ.o _ (bL fx);generalize ps[k]=p at dL xx;obtain⟨nm,vl⟩:=p;obtain⟨kI,kS⟩:=xx;have Pv:=O (Pt dL.o);have lL:eb 2 wr (.slice av ps.length cv) (ps.map gU.cells):=bG h cN;rcases lL.2 with ⟨_,_,_,e,_⟩|⟨bk,of,c,dn,h1,h2,h3,h4⟩
   ·have:ps.length=0:=by have:=aq List.length e;simpa using this
    omega
   rw[aj]at dn h1;cases dn;unfold maxLen at h2;have hcell:=h4 k (gU.cells (nm,vl)) (by rw[List.getElem?_map,dL.o];rfl);have c0:wr.cell? ⟨bk,of+k*2,none⟩=some (.string nm):=hcell 0 (.string nm) rfl;have c1:=hcell 1 (.string vl) rfl;clear hcell h4 lL;obtain⟨wb,jJ⟩:∃wb,wb=wr.alloc (.cells #[.string nm,.string vl] 142):=⟨_,rfl⟩;have j6:Fr aW wr wb:=by rw[jJ];exact(ae aW wr).alloc _
   have lI:wb.heap[wr.heap.size]?=some (.cells #[.string nm,.string vl] 142 (0,0)):=by rw[jJ];exact aB _ _
   have HC:=O (show∀U,Fr aW wb U->U.cell? ⟨wr.heap.size,0,none⟩=some (.string nm)/\U.cell? ⟨wr.heap.size,1,none⟩=some (.string vl)from fun U hU=>by
    have j1:=hU.keep lI id;simp[World.cell?,j1])
   have qC:=O jJ;have lZ:=O (cN.trans j6);have HO:=O (ho.fr j6 (fun _ h=>h.elim));have HP:=O (hp.fr j6 (fun _ h=>h.elim));have akS:=O (show∀j,(Value.slice ap (Ic (ps.take k)).length cp).ownBlock=some j->j<wr.heap.size from fun j hj=>(hp.lt j (by rw[hpe];exact hj)).2);clear jJ j6 lI ho hp cN;go_wp2_with fail
   rw[<-qC.o];refine(qO nm wb ab).mono ?_;rintro e u1⟨rfl,dn⟩;obtain⟨k0,k1⟩:=HC.o u1 dn;have lB:=O dn;clear dn c0 c1;go_wp2_with fail
   refine(Pr nm vl u1 ab ab).mono ?_;rintro e u2⟨rfl,dD⟩;obtain⟨k2,k3⟩:=HC.o u2 (lB.o.trans dD);have fS:=O ((lZ.o.trans lB.o).trans dD);have yG:=lB.o.trans dD;have K3A:=O (show∀o:Obj,(u2.alloc o).cell? ⟨wr.heap.size,1,none⟩=some (.string vl)from fun o=>(HC.o _ (yG.alloc o)).2);have qE:=HO.o.fr yG (fun _ h=>h.elim);have EY:=HP.o.fr yG (fun _ h=>h.elim);have wO:w.heap.size<=u2.heap.size:=fS.o.size
   rw[Pu]at qE Xb;rw[hpe]at EY Xb;clear dD yG k0 k1;have HLA:=O (show(⟨(nd nm.data.toList).toArray⟩:ai)=sK nm from rfl);rw[HLA.o];generalize hla:sK nm=la at *
   have HE:=O hla;clear hla;cases SE:lM nm vl
   ·obtain⟨s1,s2,s3⟩:=Gu (ps.take k) (nm,vl) SE;rw[<-Pv.o,HE.o]at s1;rw[<-Pv.o]at s2 s3;have S1:=O s1;have S2:=O s2;have S3:=O s3;clear s1 s2 s3 SE;go_wp2_with (at_builtin;refine AV rfl _ _ rfl w.heap.size (.slice ao _ co) (vw (ps.take k)) rfl (by apply im;exact qE) ⟨u2.heap.size,0,none⟩ 1 la rfl (je _ _ _ _) ab bF ?_;intro v' w3 fk BQ SF)
    have hp3:Strs w.heap.size w3 (.slice ap (Ic (ps.take k)).length cp) (Ic (ps.take k)):=(EY.alloc _).kept BQ (fun j hj=>Xb j hj);have abm:vy v' (.slice ap (Ic (ps.take k)).length cp):=(vy.sep Xb.symm SF (EY.alloc _)).symm;have ij:=O ((fS.o.alloc (.cells #[.string la] 9)).fH BQ (fun j hj=>(qE.block j hj)));go_roundw
    case rel=>exact⟨k+1,ab,bf,by rw[S3.o],by rw[S1.o];exact fk,by rw[S2.o];exact hp3,abm,ij.o⟩
    case measure=>simp[intOf];omega
   ·obtain⟨s1,s2,s3⟩:=Ei (ps.take k) (nm,vl) SE;have RA:=Jh SE;rw[<-Pv.o,HE.o]at s2;rw[<-Pv.o]at s1 s3;have S1:=O s1;have S2:=O s2;have S3:=O s3;clear s1 s2 s3 SE
    go_wp2_with (at_builtin;refine AV rfl _ _ rfl w.heap.size (.slice ap _ cp) (Ic (ps.take k)) rfl (by apply im;exact EY) ⟨u2.heap.size,0,none⟩ 1 la rfl (je _ _ _ _) ab bF ?_;intro v' w3 fk BQ SF;have k4:w3.cell? ⟨wr.heap.size,1,none⟩=some (.string vl):=BQ.cell (K3A.o _) (fun e=>absurd (akS.o _ e.symm) (Nat.lt_irrefl _)))
    have xG:Strs w.heap.size w3 (.slice ao (vw (ps.take k)).length co) (vw (ps.take k)):=(qE.alloc _).kept BQ (fun j hj hj2=>Xb j hj2 hj);have abm:vy (.slice ao (vw (ps.take k)).length co) v':=vy.sep Xb SF (qE.alloc _);have ij:=O ((fS.o.alloc (.cells #[.string la] 9)).fH BQ (fun j hj=>(EY.block j hj)));go_roundw
    case rel=>exact⟨k+1,ab,bf,by rw[S3.o];go_num,by rw[S1.o];exact xG,by rw[S2.o];exact fk,abm,ij.o⟩
    case measure=>simp[intOf];omega
  ·have qp:¬(k:Int)<(ps.length:Int):=ab;have Ps:ps.take k=ps:=aD ab;rw[Ps]at ho hp Pu hpe hn Rz D7 ⊢;clear Ps;subst Pu hpe;have hs0:w.heap.size<=wr.heap.size:=cN.size;obtain⟨N,hN⟩:∃N,N=nB ps:=⟨_,rfl⟩;have HR1:=O (show 1024<N->Gt ps=vw ps++Ic ps from fun e=>by unfold Gt;rw[<-hN,aA e]);have LS:=O (show¬1024<N->Gt ps=vw ps from fun e=>by unfold Gt;rw[<-hN,ar e,dI]);rw[<-hN]at hn ⊢;clear hN
   by_cases zO:1024<N
   ·have HR:=O (HR1.o zO);have akT:(1024:Int)<(N:Int):=ab;go_wp2_with (at_builtin;refine Jg rfl _ _ rfl w.heap.size _ (vw ps) rfl ho (.slice ap (Ic ps).length cp) (Ic ps) rfl hp.at ab ab ?_;intro v2 w2 qE yr)
    rw[<-HR.o]at qE;have fS:=O (cN.fH yr (fun j hj=>ho.block j hj));have uQ:(Gt ps).length<1000000:=by rw[HR.o,aM];omega
    clear yr ho hp Xb;go_wp2_with fail
    refine(EW w.heap.size v2 (Gt ps) w2 qE uQ).mono ?_;rintro e w3⟨rfl,xG,BQ⟩;have ij:=O (fS.o.fH BQ (fun j hj=>qE.block j hj));go_wp2_with fail
    refine(yF w.heap.size v2 _ w3 xG (by unfold tU;simpa using uQ)).mono ?_;rintro e w4⟨u,rfl,RB,Bt⟩;have jH:=O (ij.o.fH Bt (fun j hj=>xG.block j hj));go_wp2;go_ret;exact⟨u,rfl,RB,jH.o⟩
   ·have HR:=O (LS.o zO);have akT:¬(1024:Int)<(N:Int):=ab;rw[<-HR.o]at ho;have uQ:(Gt ps).length<1000000:=by rw[HR.o];omega
    rw[<-HR.o];go_wp2_with fail
    refine(EW w.heap.size _ (Gt ps) wr ho uQ).mono ?_;rintro e w3⟨rfl,xG,BQ⟩;have ij:=O (cN.fH BQ (fun j hj=>ho.block j hj));go_wp2_with fail
    refine(yF w.heap.size _ _ w3 xG (by unfold tU;simpa using uQ)).mono ?_;rintro e w4⟨u,rfl,RB,Bt⟩;have jH:=O (ij.o.fH Bt (fun j hj=>xG.block j hj));go_wp2;go_ret;exact⟨u,rfl,RB,jH.o⟩
open Go.RowKit
def N_(t:Bs):Prop:=∃n m:Bs,t=n++m/\n≠ []/\n.all Eg=true/\m.all kQ=true
def Oa(p:jh):Prop:=zY p.1=true/\Gk p.2=true
structure mZ.Ok (x:mZ):Prop where
 scheme:zY x.scheme=true
 token:x.token=[]\/(x.params=[]/\N_ x.token)
 rf:x.params.length<=16
 yH:∀p∈x.params,Oa p
 apart:∀(i j:Nat) p q,i<j->x.params[i]?=some p->x.params[j]?=some q->dG p.1 q.1=false
theorem taken(p:UInt8->Bool):∀l:Bs,(l.takeWhile p).all p=true
 |[]=>rfl
 |c :: l=>by
  cases h:p c
  ·rw[List.takeWhile_cons_of_neg (by simp[h])];rfl
  ·rw[List.takeWhile_cons_of_pos h,List.all_cons,h,taken p l];rfl
theorem Cx(h:(gR r).isEmpty=false):zY (gR r)=true:=by
 unfold zY;rw[h];have:(gR r).all fM=true:=taken fM r;rw[this];rfl
theorem Cy:∀(f:Nat) (r a z:Bs),r.length<=f->ve r=some (a,z)->a.all ng=true
 |0,r,a,z,hf,h=>by
  have:r=[]:=bZ ab;subst this;rw[ve.eq_def]at h;simp at h
 |f+1,[],a,z,hf,h=>by rw[ve.eq_def]at h;simp at h
 |f+1,x :: r,a,z,hf,h=>by
  rw[ve.eq_def]at h;simp only at h;by_cases h1:(x==34)=true
  ·rw[aA h1]at h;cases h;rfl
  ·rw[ar h1]at h;by_cases h2:(x==92)=true
   ·rw[aA h2]at h;cases r with
    |nil=>simp at h
    |cons y r' =>
     simp only at h;by_cases h3:ng y=true
     ·rw[aA h3]at h;cases hq:ve r' with
      |none=>rw[hq]at h;simp at h
      |some p =>
       rw[hq]at h;simp at h;obtain⟨rfl,rfl⟩:=h;have:=Cy f r' p.1 p.2 (by simp at hf;omega) hq;rw[List.all_cons,h3,this];rfl
     ·rw[ar h3]at h;simp at h
   ·rw[ar h2]at h;by_cases h3:ng x=true
    ·rw[aA h3]at h;cases hq:ve r with
     |none=>rw[hq]at h;simp at h
     |some p =>
      rw[hq]at h;simp at h;obtain⟨rfl,rfl⟩:=h;have:=Cy f r p.1 p.2 (by simp at hf;omega) hq;rw[List.all_cons,h3,this];rfl
    ·rw[ar h3]at h;simp at h
theorem Pw{a:Bs}(h:po r=some (a,z)):Gk a=true:=by
 unfold po at h;unfold Gk;split at h
 ·cases r with
  |nil=>cases h
  |cons c t =>
   have h':(if c==34 then ve t else none)=some (a,z):=h;by_cases hc:(c==34)=true
   ·rw[aA hc]at h';have:=Cy _ t a z (ay _) h';rw[show nQ a=true from this,jZ]
   ·rw[ar hc]at h';cases h'
 ·rename_i hw;cases h;rw[Cx (by simpa using hw)];rfl
theorem E0(h:kJ ps r=.ok (p,z)):Oa p/\tQ ps p.1=false/\ps.length≠16:=by
 unfold kJ at h;by_cases hn:ln r=true
 ·rw[ar (by simp[hn])]at h;cases hv:po (ny r)with
  |none=>rw[hv]at h;cases h
  |some q =>
   rw[hv]at h;simp only at h;split at h
   ·cases h
   rename_i ht;split at h
   ·cases h
   rename_i hk;cases h;exact⟨⟨Cx (AP hn),Pw (a:=q.1) (z:=q.2) hv⟩,by simpa using ht,hk⟩
 ·rw[aA (by simpa using hn)]at h;cases h
structure vB (ps:List jh):Prop where
 rf:ps.length<=16
 yH:∀p∈ps,Oa p
 apart:∀(i j:Nat) p q,i<j->ps[i]?=some p->ps[j]?=some q->dG p.1 q.1=false
theorem vB.nil:vB []:=⟨aQ,aQ,aQ⟩
theorem vB.snoc(h:vB ps)(hp:Oa p)(ht:tQ ps p.1=false)(hl:ps.length≠16):vB (ps++[p]):=by
 refine⟨?_,?_,?_⟩
 ·have:=h.rf;simp;omega
 ·intro q hq;rcases bP.1 hq with g|g
  ·exact h.yH q g
  ·simp at g;subst g;exact hp
 ·intro i j q q' Px hi hj;have hj':=(List.getElem?_eq_some_iff.1 hj).1;simp at hj';by_cases hjl:j<ps.length
  ·rw[List.getElem?_append_left hjl]at hj;rw[List.getElem?_append_left ab]at hi;exact h.apart i j q q' Px hi hj
  ·have e:j=ps.length:=ab;subst e;rw[List.getElem?_append_left ab]at hi;simp at hj;subst hj;unfold tQ at ht;rw[eT]at ht;simpa using ht q (cA hi)
theorem Cz:∀(f:Nat) (ps:List jh) (r:Bs) (q:List jh×Bs),vB ps->gK f ps r=.ok q->vB q.1
 |0,ps,r,q,ho,h=>by rw[gK]at h;cases h;exact ho
 |f+1,ps,r,q,ho,h=>by
  rw[gK]at h;cases hp:kJ ps r with
  |error e=>rw[hp]at h;cases h
  |ok p =>
   rw[hp]at h;obtain⟨p,r1⟩:=p;obtain⟨h1,h2,h3⟩:=E0 hp;have D_:=ho.snoc h1 h2 h3;simp only at h;split at h
   ·split at h
    ·exact Cz f _ _ q D_ h
    ·cases h;exact D_
   ·cases h
theorem LW{t:Bs}(h:singleR r=some (t,z)):N_ t:=by
 unfold singleR at h;split at h
 ·rename_i hc;cases h;simp only[cy,Bool.not_eq_true']at hc;refine⟨_,_,rfl,fun e=>?_,?_,?_⟩
  ·rw[e]at hc;cases hc.1
  ·exact taken Eg r
  ·exact taken kQ _
 ·cases h
theorem Ob{x:mZ}(h:oV k r=.ok (x,z)):x.Ok/\k≠8:=by
 unfold oV at h;split at h
 ·cases h
 rename_i hw;have hw':=Cx (show(gR r).isEmpty=false by simpa using hw);split at h
 ·cases h
 rename_i hk;refine⟨?_,hk⟩;split at h
 ·cases h;exact⟨hw',Or.inl rfl,aQ,aQ,aQ⟩
 split at h
 ·cases h
 split at h
 ·rename_i q hq;cases h;exact⟨hw',Or.inr ⟨rfl,LW (t:=q.1) (z:=q.2) hq⟩,aQ,aQ,aQ⟩
 ·split at h
  ·cases h
  ·rename_i q hq;cases h;have:=Cz _ _ _ _ vB.nil hq;exact⟨hw',Or.inl rfl,this.rf,this.yH,this.apart⟩
theorem E5:∀(f:Nat) (acc:List mZ) (r:Bs) (l:List mZ),(∀x∈acc,x.Ok)->acc.length<=8->jQ f acc r=.ok l->(∀x∈l,x.Ok)/\l.length<=8
 |0,acc,r,l,ha,hl,h=>by rw[jQ]at h;cases h;exact⟨ha,hl⟩
 |f+1,acc,r,l,ha,hl,h=>by
  rw[jQ]at h;split at h
  ·cases h;exact⟨ha,hl⟩
  ·cases ho:oV acc.length (iq r)with
   |error e=>rw[ho]at h;cases h
   |ok q =>
    obtain⟨x,r1⟩:=q;rw[ho]at h;obtain⟨h1,h2⟩:=Ob ho;simp only at h;refine E5 f _ r1 l ?_ ?_ h
    ·intro y hy;rcases bP.1 hy with g|g
     ·exact ha y g
     ·simp at g;subst g;exact h1
    ·simp;omega
theorem Jm{l:List mZ}(h:mg r=.ok l):(∀x∈l,x.Ok)/\l.length<=8:=by
 unfold mg at h;split at h
 ·cases h
 ·exact E5 _ _ _ _ aQ aQ h
def Py(p:jh)(x:Bs):Bs:=p.1++61 :: x
def xa:List (jh×Bs)->Bs
 |[]=>[]
 |[p]=>Py p.1 p.2
 |p :: q :: l=>Py p.1 p.2++44 :: 32 :: xa (q :: l)
def iu(w:World)(b c:Nat)(s:ai)(v:Value):Prop:=w.heap[b]?=some (.cells #[.pointer (some ⟨c,0,none⟩),.string s,v] 205 (0,0))
section
variable {w w' : World} {b c i : Nat} {s t : ByteArray} {v : Value}
theorem iu.cell0(h:iu w b c s v):w.cell? ⟨b,0,none⟩=some (.pointer (some ⟨c,0,none⟩)):=by simp[World.cell?,show w.heap[b]?=_ from h]
theorem iu.gV(h:iu w b c s v):w.cell? ⟨b,1,none⟩=some (.string s):=by simp[World.cell?,show w.heap[b]?=_ from h]
theorem iu.lU(h:iu w b c s v):w.cell? ⟨b,2,none⟩=some v:=by simp[World.cell?,show w.heap[b]?=_ from h]
theorem iu.free(h:iu w b c s v)(k:Nat):w.frozen? ⟨b,k,none⟩=false:=by simp[World.frozen?,show w.heap[b]?=_ from h]
theorem iu.ne(h:iu w b c s v)(g:dk w c t i):b≠c:=by
 intro e;subst e;have h':w.heap[b]?=_:=h;have g':w.heap[b]?=_:=g;rw[h']at g';simp at g'
theorem iu.fr(h:iu w b c s v)(hf:Fr S w w')(hn:¬S b):iu w' b c s v:=hf.keep h hn
theorem iu.one(h:iu w b c s v)(g:dk w c t i)(hf:Fr (one c) w w'):iu w' b c s v:=h.fr hf (fun e=>h.ne g e)
theorem iu.lt(h:iu w b c s v):b<w.heap.size:=bg h
theorem iu.drewN(h:iu w b c s v):iu (w.drewN n) b c s v:=h
end
theorem SJ(l:Bs)(k:Nat)(hk:k<=l.length):cJ n9 l (cJ dH l k)=cJ n9 l k:=by
 have e1:l.drop (cJ n9 l (cJ dH l k))=l.drop (cJ n9 l k):=by
  rw[jP,jP,jP];exact tS _
 have h1:cJ n9 l (cJ dH l k)<=l.length:=gS (gS hk);have h2:cJ n9 l k<=l.length:=gS hk;have:=aq List.length e1;simp at this;omega
theorem LX{l:Bs}(h:l[k]?=some 44):cJ n9 l (k+1)=cJ n9 l k:=(oq h ag).symm
theorem PB{l:Bs}(h:cJ dH l k=k)(h2:l[k]?≠some 44):cJ n9 l k=k:=by
 refine lj (fun c hc=>?_);unfold n9;cases hb:dH c
 ·have:c≠44:=fun e=>h2 (by rw[hc,e]);simpa using this
 ·have:=oq (p:=dH) hc hb;have h3:=ll (p:=dH) (l:=l) (i:=k+1);omega
theorem wC(s:ai)(k:Nat)(c:UInt8):jU s k c=true↔s.data.toList[k]?=some c:=by unfold jU;simp
theorem CB(b c i:Nat)(s:ai)(v:Value)(w:World)(hr:iu w b c s v)(h:dk w c s i)(hs:s.size<=maxLen)(hi:i<=s.size) :
  aC 118 #[.pointer (some ⟨b,0,none⟩)] w fun e w'=>e=.returned (.tuple #[])/\dk w' c s (cJ n9 s.data.toList i)/\Fr (one c) w w':=by
 go_enter func118,ntmps118;go_wp2;go_loopw[] (fun wr=>∃k,k<=s.size/\dk wr c s k/\cJ n9 s.data.toList k=cJ n9 s.data.toList i/\Fr (one c) w wr) (fun wr=>s.size-pg wr c)
 case atStart=>exact⟨i,hi,h,rfl,ae _ _⟩
 case round =>
  obtain⟨k,hk,hc,p9,cN⟩:=hrel;have xy:=O p9;clear p9;have BV:=hr.one h cN;have q0:=BV.cell0;have pM:=O hc.pos;have ZM:k<=s.data.toList.length:=by simpa using hk
  have HG:=O (SJ s.data.toList k ZM);have lI:cJ dH s.data.toList k<=s.size:=by simpa using gS (p:=dH) ZM
  have LY:k<=cJ dH s.data.toList k:=ll;go_wp2_with fail
  refine(mf c s k wr hc hs hk).mono ?_;rintro e w1⟨rfl,pJ,dn⟩;have lB:=O (cN.trans dn);have oP:=BV.one hc dn;have q1:=oP.cell0;generalize hK:cJ dH s.data.toList k=K at *
  have HK:=O hK;clear hK q0;by_cases tL:k<K
  ·have hd:decide (k<K)=true:=bK tL;rw[hd];go_wp2;go_roundw
   case rel=>exact⟨K,lI,pJ,HG.o.trans xy.o,lB.o⟩
   case measure=>rw[pM.o,pJ.pos];omega
  ·have hd:decide (k<K)=false:=bB tL;have hKk:K=k:=ab;subst hKk;rw[hd];go_wp2_with fail
   refine(pL c s K 44 w1 pJ hs).mono ?_;rintro e w2⟨rfl,sW,dD⟩;have fS:=O (lB.o.trans dD);cases hm:jU s K 44
   ·have iM:=O (PB HK.o (fun e=>by rw[(wC s K 44).2 e]at hm;cases hm));rw[pd hm]at sW;go_wp2;go_end0;rw[<-xy.o,iM.o];exact⟨rfl,sW,fS.o⟩
   ·have iM:=O (LX ((wC s K 44).1 hm));rw[o_ hm]at sW;have akX:K<s.size:=by
     have:=(List.getElem?_eq_some_iff.1 ((wC s K 44).1 hm)).1;simpa using this
    go_wp2;go_roundw
    case rel=>exact⟨K+1,akX,sW,iM.o.trans xy.o,fS.o⟩
    case measure=>rw[pM.o,sW.pos];omega
def eG(s:ai)(i:Nat):Nat:=cJ dH s.data.toList i
theorem xJ(h:i<=s.size):eG s i<=s.size:=by
 unfold eG;simpa using gS (p:=dH) (l:=s.data.toList) (i:=i) (by simpa using h)
theorem oy(s:ai)(i:Nat):s.data.toList.drop (eG s i)=eS (s.data.toList.drop i):=jP _ _ _
theorem Xi(s:ai)(i:Nat):nS (s.data.toList.drop i)=(decide (s.size<=eG s i)||jU s (eG s i) 44):=by
 unfold nS;rw[<-oy];by_cases h:s.size<=eG s i
 ·rw[cL (by simpa using h)];simp[h,Ss]
 ·have tL:eG s i<s.data.toList.length:=by simpa using h
  rw[cM tL,bB h,jw];unfold Ss jU;rw[List.getElem?_eq_getElem tL,eV];simp
theorem tX(h:k<=n):Sq (k:Int) n=k:=by unfold Sq;omega
theorem CC(b c i:Nat)(s:ai)(v:Value)(w:World)(hr:iu w b c s v)(h:dk w c s i)(hs:s.size<=maxLen)(hi:i<=s.size) :
  aC 169 #[.pointer (some ⟨b,0,none⟩)] w fun e w'=>e=.returned (.bool (nS (s.data.toList.drop i)))/\dk w' c s (eG s i)/\Fr (one c) w w':=by
 have q0:=hr.cell0;have hb:=xJ hi;have HO:=O (Xi s i);generalize hK:eG s i=K at *
 have HK:=O hK;clear hK;go_enter func169,ntmps169;go_wp2_with fail
 refine(mf c s i w h hs hi).mono ?_;rintro e w1⟨rfl,pJ,dn⟩;replace pJ:dk w1 c s (eG s i):=pJ;rw[HK.o]at pJ;have BV:=hr.one h dn;have q1:=BV.cell0;clear q0;go_wp2_with fail
 refine(zX c s K w1 pJ).mono ?_;rintro e w2⟨rfl,rfl⟩;go_wp2_with fail
 refine(wj c s K w1 pJ).mono ?_;rintro e w3⟨rfl,n3,rfl⟩;have tP:dk (w1.drewN n3) c s K:=pJ.drewN n3;have ik:Fr (one c) w (w1.drewN n3):=dn.drewN n3;have q3:=(BV.drewN (n:=n3)).cell0;clear q1;by_cases he:s.size<=K
 ·have hd:decide (s.size<=K)=true:=bK he;have HO2:=O (show nS (s.data.toList.drop i)=true by rw[HO.o,hd];rfl);rw[hd];clear HO;go_wp2_with fail
  refine(xB c s K K (w1.drewN n3) tP hs).mono ?_;rintro e w4⟨rfl,tM,kz⟩;rw[tX hb]at tM;go_wp2;go_ret;rw[HO2.o];exact⟨rfl,tM,ik.trans kz⟩
 ·have hd:decide (s.size<=K)=false:=bB he;have HO2:=O (show nS (s.data.toList.drop i)=jU s K 44 by rw[HO.o,hd];rfl);rw[hd];clear HO;go_wp2_with fail
  refine(pL c s K 44 (w1.drewN n3) tP hs).mono ?_;rintro e w4⟨rfl,tM,kz⟩;have q4:=((BV.drewN (n:=n3)).one tP kz).cell0;clear q3;go_wp2_with fail
  refine(xB c s _ K w4 tM hs).mono ?_;rintro e w5⟨rfl,tN,lC⟩;rw[tX hb]at tN;go_wp2;go_ret;rw[HO2.o];exact⟨rfl,tN,(ik.trans kz).trans lC⟩
def Ie(s:ai)(i:Nat):Nat:=cJ fM s.data.toList i
theorem Gz(h:i<=s.size):Ie s i<=s.size:=by
 unfold Ie;simpa using gS (p:=fM) (l:=s.data.toList) (i:=i) (by simpa using h)
theorem vD(s:ai)(i:Nat):s.data.toList.drop (Ie s i)=ic (s.data.toList.drop i):=jP _ _ _
theorem yK(s:ai)(i:Nat):s.extract i (Ie s i)=⟨(gR (s.data.toList.drop i)).toArray⟩:=yv _ _ _
theorem Xj(s:ai)(k:Nat)(c:UInt8):LH c (s.data.toList.drop k)=jU s k c:=by
 unfold jU;rcases fC k s.data.toList.length with h|h
 ·rw[cM h,List.getElem?_eq_getElem h,eV];simp[LH]
 ·rw[cL h,List.getElem?_eq_none h];simp[LH]
theorem Jq(s:ai)(i:Nat):ln (s.data.toList.drop i)=(!(gR (s.data.toList.drop i)).isEmpty&&jU s (eG s (Ie s i)) 61):=by
 unfold ln;rw[<-vD, <-oy,Xj]
theorem toList_mk(l:Bs):(⟨l.toArray⟩:ai).toList=l:=by rw[Go.ByteArray.toList_eq]
theorem LZ(b c i:Nat)(s:ai)(v:Value)(w:World)(hr:iu w b c s v)(h:dk w c s i)(hs:s.size<=maxLen)(hi:i<=s.size) :
  aC 172 #[.pointer (some ⟨b,0,none⟩)] w fun e w'=>e=.returned (.bool (ln (s.data.toList.drop i)))/\dk w' c s i/\Fr (one c) w w':=by
 have q0:=hr.cell0;have HN:=O (Jq s i);have hw:=Gz hi;go_enter func172,ntmps172;go_wp2_with fail
 refine(zX c s i w h).mono ?_;rintro e w0⟨rfl,rfl⟩;go_wp2_with fail
 refine(vn c s i w h hs hi).mono ?_;rintro e w1⟨rfl,pJ,dn⟩;replace pJ:dk w1 c s (Ie s i):=pJ;rw[show s.extract i (cJ fM s.data.toList i)=⟨(gR (s.data.toList.drop i)).toArray⟩from yK s i];generalize Ie s i=K at *
 generalize gR (s.data.toList.drop i)=W at *
 have BV:=hr.one h dn;have q1:=BV.cell0;clear q0;go_wp2_with fail
 refine(mf c s K w1 pJ hs hw).mono ?_;rintro e w2⟨rfl,sW,dD⟩;replace sW:dk w2 c s (eG s K):=sW;have hb:=xJ hw;generalize eG s K=M at *
 have oP:=BV.one pJ dD;have q2:=oP.cell0;have fS:=O (dn.trans dD);clear q1 dn dD;cases W with
 |nil =>
  have HN2:=O (show ln (s.data.toList.drop i)=false by rw[HN.o];rfl);clear HN;go_wp2_with fail
  refine(xB c s M i w2 sW hs).mono ?_;rintro e w4⟨rfl,tM,kz⟩;rw[tX hi]at tM;go_wp2;go_ret;rw[HN2.o];exact⟨rfl,tM,fS.o.trans kz⟩
 |cons x W =>
  have HN2:=O (show ln (s.data.toList.drop i)=jU s M 61 by rw[HN.o];rfl);clear HN;go_wp2_with fail
  refine(pL c s M 61 w2 sW hs).mono ?_;rintro e w3⟨rfl,tP,ik⟩;have q3:=(oP.one sW ik).cell0;clear q2;go_wp2_with fail
  refine(xB c s _ i w3 tP hs).mono ?_;rintro e w4⟨rfl,tM,kz⟩;rw[tX hi]at tM;go_wp2;go_ret;rw[HN2.o];exact⟨rfl,tM,(fS.o.trans ik).trans kz⟩
def RJ:List Int:=[0,1,56,2,57,49,28,3,61,58,42,50,38,29,17,4,62,47,59,36,45,43,51,22,53,39,33,30,24,18,12,5,63,55,48,27,60,41,37,16,46,35,44,21,52,32,23,11,54,26,40,15,34,20,31,10,25,14,19,9,13,8,7,6]
theorem Me{W:World}{laid:List (String×DataW Unit)}(h:laidMet prog laid W)(hm:("math/bits.deBruijn64tab",Lib.tabData .u8 RJ)∈laid/\True):oC W 9 .u8 RJ :=
 vK (rm h hm.1 (g:=9) af af underlying342 underlying5 af af) af ag
theorem abK(w:World)(h:oC w 9 .u8 RJ) :
  aC 272 #[.int .u64 16] w fun e w'=>e=.returned (.int .i64 4)/\w'=w:=by
 have hc:w.cell? ⟨9,15,none⟩=some (.int .u8 4):=h.2 15 4 rfl;have hb:bits .and .u64 16 18446744073709551600=16:=dp;have hw:IntKind.u64.wrap (-16)=18446744073709551600:=dp;have ez:IntKind.u64.wrap (16*285870213051353865)=4573923408821661840:=dp;have Th:IntKind.u64.wrap 4573923408821661840=4573923408821661840:=dp;go_enter func272,ntmps272;go_wp2;go_ret;exact⟨rfl,rfl⟩
theorem Ti(w:World) :
  aC 271 #[.int .i64 16] w fun e w'=>e=.returned (.bool true)/\w'=w:=by
 have hb:bits .and .i64 16 15=0:=dp;go_enter func271,ntmps271;go_wp2;go_ret;exact⟨rfl,rfl⟩
theorem Oz:∀n (h:n<16),(⟨#[48,49,50,51,52,53,54,55,56,57,97,98,99,100,101,102,103,104,105,106,107,108,109,110,111,112,113,114,115,116,117,118,119,120,121,122]⟩:ai)[n]'(Nat.lt_trans h ag)=CH n.toUInt8:=ag
def OA(w:World)(g:Nat)(l:aH):Prop:=w.heap[g]?=some (.cells (tK l).toArray 325 (0,0))
theorem OA.cell(h:OA w g l){c:UInt8}(hj:l[j]?=some c):w.cell? ⟨g,j,none⟩=some (.int .u8 (c.toNat:Int)):=by
 obtain⟨hl,he⟩:=List.getElem?_eq_some_iff.1 hj;unfold OA at h;simp only[World.cell?,h];simp[tK,hl,he]
theorem OA.free(h:OA w g l)(j:Nat):w.frozen? ⟨g,j,none⟩=false:=by
 unfold OA at h;simp[World.frozen?,h]
theorem OA.set(h:OA w g l)(j:Nat)(c:UInt8):OA (w.setCell ⟨g,j,none⟩ (.int .u8 (c.toNat:Int))) g (l.set j c):=by
 unfold OA at h ⊢;simp only[World.setCell,Array.getElem?_modify,h];simp[tK,List.map_set]
theorem OA.text{m:aH}(h:OA w g (m++l))(hk:m.length=k) :
  (convert 187 9 (.slice (some ⟨g,k,none⟩) l.length c)).run prog w=.ok (.string ⟨l.toArray⟩) w:=by
 refine run_convert_bytes_back (P:=prog) w 187 9 5 ⟨g,k,none⟩ c l underlying187 underlying5 underlying9 ?_;intro j hj;have ea:(Addr.add ⟨g,k,none⟩ j)=⟨g,k+j,none⟩:=by unfold Addr.add;split<;>simp_all
 rw[ea];refine h.cell ?_;rw[List.getElem?_append_right ab,show k+j-m.length=j from ab];exact List.getElem?_eq_getElem hj
def Em(n j:Nat):aH:=List.replicate (65-j) 0++kt j n
theorem Tj(n j:Nat)(h:j<=65):(Em n j).length=65:=by unfold Em;rw[aM,fb,nJ];omega
theorem PN(n j:Nat)(h:j<65):Em n (j+1)=(Em n j).set (64-j) (CH (n/16^j%16).toUInt8):=by
 unfold Em;rw[<-A1 j n,show 65-j=(65-(j+1))+1 from ab,List.replicate_succ'];rw[cH,List.set_append,ar (by rw[fb];omega)];rw[fb,show 64-j-(65-(j+1))=0 from ab];rfl
theorem abL(q:Nat)(hq:q<18446744073709551616):bits .and .u64 (q:Int) 15=((q%16:Nat):Int):=by
 have h:=bits_and_u64_nat q 15 hq ag;rw[show((15:Nat):Int)=15 from rfl]at h;rw[h]
 congr 1
 exact Nat.and_two_pow_sub_one_eq_mod q 4
def afI(n g:Nat)(w:World)(u i:Value)(wr:World):Prop:=∃j m:Nat,j<=7/\m+1+j=65/\u=.int .u64 ((n/16^j:Nat):Int)/\i=.int .i64 ((m:Int)+1)/\OA wr g (Em n j)/\Fr aW w wr
theorem PO(n:Nat)(w:World)(hn:n<4294967296)(h:oC w 9 .u8 RJ) :
  aC 244 #[.slice none 0 0,.int .u64 (n:Int),.int .i64 16,.bool false,.bool false] w fun e w' =>
   (∃j,j<8/\n<16^(j+1)/\e=.returned (.tuple #[.slice none 0 0,.string ⟨(kt (j+1) n).toArray⟩]))/\Fr aW w w':=by
 have iv:Fr aW w (w.alloc (.cells (tK (List.replicate 65 0)).toArray 325)):=(ae aW w).alloc _;have HTZ:=O (abK _ (h.fr iv));have XK:=O (show OA (w.alloc (.cells (tK (List.replicate 65 0)).toArray 325)) w.heap.size (Em n 0)from aB _ _);clear h;go_enter func244,ntmps244;go_wp2_with fail
 refine(Ti _).mono ?_;rintro e w1⟨rfl,rfl⟩;go_wp2_with fail
 refine HTZ.o.mono ?_;rintro e w2⟨rfl,rfl⟩;go_wp2;go_loopw[1,13] (afI n w.heap.size w) (fun u _ _=>(intOf u).toNat)
 case atStart=>exact⟨0,64,ab,ab,aQ,rfl,XK.o,iv⟩
 case round =>
  obtain⟨j,m,hj,hm,rfl,rfl,hb,cN⟩:=hrel;have hq0:n/16^j<=n:=Nat.div_le_self _ _;have hsu:=O (PN n j ab);have B6:=O (show n/16^(j+1)=n/16^j/16 by rw[Nat.pow_succ,Nat.div_div_eq_div_mul]);have h7:=O (show 16<=n/16^j->j<7 from fun h=>by
   rcases fC j 7 with h1|h1
   ·exact h1
   ·obtain rfl:j=7:=ab;simp at h;omega)
  have afJ:=O (show n/16^j<16->n<16^(j+1)from fun h=>by rw[Nat.pow_succ,Nat.mul_comm];exact(Nat.div_lt_iff_lt_mul (Nat.pow_pos ag)).1 h);have qz:=O (hb.set m (CH (n/16^j%16).toUInt8));have ZN:=Tj n j ab;have hcell:=hb.cell (List.getElem?_eq_getElem (show m<(Em n j).length from ab));have aoK:=hb.free m;generalize hq:n/16^j=q at *
  have h15:=abL q ab;have hr:q%16<16:=Nat.mod_lt _ ag;by_cases V9:16<=q
  ·have alj:(16:Int)<=(q:Int):=ab;go_wp2;rw[Oz _ hr];exact⟨⟨j+1,m-1,by have:=h7.o V9;omega,by have:=h7.o V9;omega,by rw[B6.o];rfl,by congr 1;omega,by rw[hsu.o,show 64-j=m from ab];exact qz.o,cN.gI (p:=⟨w.heap.size,m,none⟩) (ay _) _⟩,by simp[intOf];omega⟩
  ·have alj:¬(16:Int)<=(q:Int):=ab;have arK:(m:Int)<=65:=ab;have aoL:m<=65:=ab;have afK:q<16:=ab;have e65:65-m=j+1:=ab;have hx:=qz.o;rw[show q%16=q from ab,show(Em n j).set m (CH q.toUInt8)=List.replicate m 0++kt (j+1) n from by
    have h:=hsu.o;rw[show q%16=q from ab,show 64-j=m from ab]at h;rw[<-h];unfold Em;rw[show 65-(j+1)=m from ab]]at hx
   have AJ:=hx.text (k:=m) (c:=j+1) aQ;rw[nJ]at AJ;clear hx hb qz;go_wp2;rw[Oz _ afK,AJ];go_wp2;go_ret2;exact⟨⟨j,ab,afJ.o afK,rfl⟩,cN.gI (p:=⟨w.heap.size,m,none⟩) (ay _) _⟩
theorem Tk(n:Nat)(w:World)(hn:n<4294967296)(h:oC w 9 .u8 RJ) :
  aC 161 #[.int .i64 (n:Int),.int .i64 16] w fun e w' =>
   (∃j,j<8/\n<16^(j+1)/\e=.returned (.string ⟨(kt (j+1) n).toArray⟩))/\Fr aW w w':=by
 have HF:=O (PO n w hn h);clear h
 have h1:IntKind.u64.wrap (n:Int)=(n:Int):=by have e:IntKind.u64.wrap (n:Int)=(n:Int)%18446744073709551616:=by simp[IntKind.wrap,IntKind.signed,IntKind.bits]
                                              rw[e];omega
 have V5:aC 209 #[.int .i64 (n:Int),.int .i64 16] w fun e w' =>
   (∃j,j<8/\n<16^(j+1)/\e=.returned (.string ⟨(kt (j+1) n).toArray⟩))/\Fr aW w w':=by
  go_enter func209,ntmps209;go_wp2_with fail
  refine HF.o.mono ?_;rintro e w1⟨⟨j,hj,zU,rfl⟩,hf⟩;have HN:=O zU;clear zU;go_wp2;go_ret;exact⟨⟨j,hj,HN.o,rfl⟩,hf⟩
 go_enter func161,ntmps161;go_wp2_with fail
 refine V5.mono ?_;rintro e w1⟨⟨j,hj,zU,rfl⟩,hf⟩;have HN:=O zU;clear zU V5;go_wp2;go_ret;exact⟨⟨j,hj,HN.o,rfl⟩,hf⟩
theorem JI(k:Nat):Lib.repeatL [48] k=List.replicate k 48:=by
 induction k with
 |zero=>rfl
 |succ k ih=>show([48]:aH)++Lib.repeatL [48] k=_;rw[ih,List.replicate_succ];rfl
theorem qR(n:Nat)(w:World)(hn:n<4294967296)(h:oC w 9 .u8 RJ) :
  aC 111 #[.int .i64 (n:Int)] w fun e w'=>e=.returned (.string ⟨(jl n).toArray⟩)/\Fr aW w w':=by
 have HF:=O (Tk n w hn h);clear h;go_enter func111,ntmps111;go_wp2_with fail
 refine HF.o.mono ?_;rintro e w1⟨⟨j,hj,zU,rfl⟩,hf⟩;have HC:=O (show jl n=Lib.repeatL [48] (7-j)++kt (j+1) n by unfold jl;rw[JI,CJ _ _ _ zU,show j+1+(7-j)=8 from ab]);have hl:=nJ (j+1) n;generalize kt (j+1) n=x at *
 clear zU;have hmx:max (0:Int) (8-((j:Int)+1))=((7-j:Nat):Int):=ab;go_wp2_with fail
 refine(strings_Repeat ⟨#[48]⟩ (7-j) w1 ab (by show 1*(7-j)<=_;omega)).mono ?_;rintro e w2⟨rfl,hb⟩;have dD:=fe hb;have uQ:(Lib.repeatL [48] (7-j)).length=7-j:=by rw[JI];simp
 have HS:=O (show(⟨(Lib.repeatL [48] (7-j)).toArray⟩++⟨x.toArray⟩:ai)=⟨(jl n).toArray⟩from by
  apply Go.WideShapes.bytes_inj;rw[HC.o];simp[gD])
 generalize Lib.repeatL [48] (7-j)=z at *
 have XC:¬9223372036854775807<z.length+x.length:=ab;go_wp2;go_ret;exact⟨by rw[<-HS.o];rfl,hf.trans dD⟩
theorem yX(b:Bool)(w:World):aC 230 #[.bool b] w fun e w'=>e=.returned (.int .i64 (Cr b))/\w=w':=by
 cases b
 ·go_enter func230,ntmps230;go_wp2;go_ret;exact⟨rfl,rfl⟩
 ·go_enter func230,ntmps230;go_wp2;go_ret;exact⟨rfl,rfl⟩
def gy.dP(o:gy):abe:=⟨o.aG,o.host.data.toList,o.port⟩
def wS(o:gy):ai:=⟨(EN o.dP).toArray⟩
def OI(s:Bool):ai:=⟨(ZB s).toArray⟩
theorem Mo(sec:Bool)(host:ai)(port:Int)(h:port=Cr sec):wS ⟨sec,host,port⟩=OI sec++host:=by
 apply Go.WideShapes.bytes_inj;unfold wS EN gy.dP OI;simp[h]
theorem P9(sec:Bool)(host:ai)(port:Int)(h:¬port=Cr sec):wS ⟨sec,host,port⟩=(OI sec++host)++(⟨#[58]⟩++⟨(Lib.itoa port).toArray⟩):=by
 apply Go.WideShapes.bytes_inj;unfold wS EN gy.dP OI;simp[h]
theorem Fr.grow(w:World)(k:Nat)(os:Array Obj):Fr aW w (Sort.grow (w.drewN k) os):=fe (Lib.below_grow w.heap.size w (ay _) k os)
theorem TD(o:gy)(w:World)(ht:xh w)(h0: -9223372036854775808<=o.port)(h1:o.port<=9223372036854775807)(hs:o.host.size<100000) :
  aC 196 #[.agg o.cells.toArray] w fun e w'=>e=.returned (.string (wS o))/\Fr aW w w':=by
 obtain⟨sec,host,port⟩:=o;have h0: -9223372036854775808<=port:=h0;have h1:port<=9223372036854775807:=h1;have hs:host.size<100000:=hs;have alR:=Lib.itoa_length_le port h0 h1;have hiz:(⟨(Lib.itoa port).toArray⟩:ai).size<=21:=by show(Lib.itoa port).toArray.size<=21;simpa using alR
 unfold gy.cells;obtain⟨wb,jJ⟩:∃wb,wb=w.alloc (.cells #[.bool sec,.string host,.int .i64 port] 24):=⟨_,rfl⟩;have j6:Fr aW w wb:=by rw[jJ];exact(ae aW w).alloc _
 have lI:wb.heap[w.heap.size]?=some (.cells #[.bool sec,.string host,.int .i64 port] 24 (0,0)):=by rw[jJ];exact aB _ _
 have c0:wb.cell? ⟨w.heap.size,0,none⟩=some (.bool sec):=by simp[World.cell?,lI]
 have c1:wb.cell? ⟨w.heap.size,1,none⟩=some (.string host):=by simp[World.cell?,lI]
 have c2:wb.cell? ⟨w.heap.size,2,none⟩=some (.int .i64 port):=by simp[World.cell?,lI]
 have Bd:=O (show∀m,aC 231 #[.int .i64 port] (wb.drewN m) fun e w'=>e=.returned (.string ⟨(Lib.itoa port).toArray⟩)/\Fr aW w w' from fun m =>
  (strconv_Itoa port h0 h1 _ ((ht.fr j6).fr ((ae aW wb).drewN m))).mono fun e w' h=>by
   obtain⟨he,k,os,rfl⟩:=h;exact⟨he,(j6.drewN m).trans (Fr.grow _ k os)⟩)
 have qC:=O jJ;clear jJ lI;by_cases hp:port=Cr sec
 ·have HT:=O (Mo sec host port hp);have JS:(port !=Cr sec)=false:=by simpa using hp
  have lZ:=O j6;cases sec
  ·clear hp;go_enter func196,ntmps196;go_wp2;rw[<-qC.o];go_quiet ((go_at_call 230;exact sX (yX false _)));go_wp2;go_ret;exact⟨by rw[HT.o];rfl,lZ.o.drewN _⟩
  ·clear hp;go_enter func196,ntmps196;go_wp2;rw[<-qC.o];go_quiet ((go_at_call 230;exact sX (yX true _)));go_wp2;go_ret;exact⟨by rw[HT.o];rfl,lZ.o.drewN _⟩
 ·have HT:=O (P9 sec host port hp);have JS:(port !=Cr sec)=true:=by simpa using hp
  have lZ:=O j6;cases sec
  ·clear hp;go_enter func196,ntmps196;go_wp2;rw[<-qC.o];go_quiet ((go_at_call 230;exact sX (yX false _)));go_wp2_with fail
   refine(Bd.o _).mono ?_;rintro e u⟨rfl,zP⟩;go_wp2;go_ret;exact⟨by rw[HT.o];rfl,zP⟩
  ·clear hp;go_enter func196,ntmps196;go_wp2;rw[<-qC.o];go_quiet ((go_at_call 230;exact sX (yX true _)));go_wp2_with fail
   refine(Bd.o _).mono ?_;rintro e u⟨rfl,zP⟩;go_wp2;go_ret;exact⟨by rw[HT.o];rfl,zP⟩
theorem xS:(prog.info? 133).map (fun i=>(i.zero,i.size,i.bytes))=some (some (.agg fc),16,216):=af
theorem xT:fc.all (·.oneCell')=true:=dp
def Qa(base:Nat)(w:World)(gs:List (aU bE))(v:Value)(w':World):Prop:=hD base w' v gs/\∀k,v.ownBlock=some k->w.heap.size<=k
def Mr(base:Nat)(w:World)(gs:List (aU bE))(e:Ending)(w':World):Prop :=
 ∃v,e=.returned v/\Qa base w gs v w'/\Fr aW w w'
def af9(base:Nat)(w:World)(gs:List (aU bE))(v i:Value)(wr:World):Prop :=
 ∃(k:Nat) (rs:List (aU Value)),k<=gs.length/\i=.int .i64 k/\OwnRows w.heap.size 133 16 wr v (rs.map aU.cells)/\lf (aU.Reads (cZ base wr)) rs (gs.take k)/\Fr aW w wr
theorem Ms(base:Nat)(w:World)(b:Nat)(gv wv:Value)(gs:List (aU bE))(ws:List (bJ bE))(h:dB base w b gv wv gs ws)(Mt:gs.length<68719476736) :
  aC 56 #[.pointer (some ⟨b,0,none⟩)] w (Mr base w gs):=by
 have h0:=h.c0;obtain⟨av,cv,hv⟩:=h.bW.form;subst hv;have tL:=h.lt;have il:base<=w.heap.size:=by have:=h.low;omega
 go_enter func56,ntmps56;go_wp2;clear h0;go_loopw[3,11] (af9 base w gs) (fun _ i _=>gs.length-(intOf i).toNat)
 case atStart=>exact⟨0,[],aS _,rfl,dr _ _ _ _,.nil,ae _ _⟩
 case round =>
  obtain⟨k,rs,hk,rfl,cO,vO,cN⟩:=hrel;by_cases fx:k<gs.length
  ·obtain⟨bk,c,dn,si,r,dX,hr,hcell⟩:=(h.dt cN).bW.at fx;cases dn;unfold maxLen at si;obtain⟨x,hx⟩:∃x,x=r.cells:=⟨_,rfl⟩;have lr:x.length=16:=by rw[hx];rfl
   have iM:=fun W=>run_storeCells_new (P:=prog) W 133 #[.bool false,.string ⟨#[]⟩,.int .i64 0,.bool false,.string ⟨#[]⟩,.string ⟨#[]⟩,.int .i64 0,.string ⟨#[]⟩,.string ⟨#[]⟩,.string ⟨#[]⟩,.bool false,.string ⟨#[]⟩,.bool false,.slice none 0 0,.int .i64 0,.slice none 0 0] x (by rw[lr];rfl) (by rw[hx];exact dX);rw[<-hx]at hcell;have HX:=O hx
   have Fo:(prog.info? 133).map (·.size)=some x.toArray.size:=by rw[ba,lr];kernel_rfl
   have Lw:=O Fo;clear hx Fo;obtain⟨av,cv,TI⟩:=cO.form;subst TI;rw[aj,vO.len,aL,dJ hk]at cO ⊢
   go_wp2_with (first|((with_reducible refine dv 14 ?_);refine a_ rfl 133 (.tmp 13) rfl bk (k*16) rfl x _ hcell underlying133 rfl (by have h:=Lw.o;rw[ba]at h;exact h) ?_)|((with_reducible refine dv 16 ?_);refine aJ rfl 133 (.tmp 5) rfl wr.heap.size rfl _ x.toArray (0,0) _ (aB wr _) underlying133 rfl Lw.o ?_)|fail)
   have iv:Fr aW wr (wr.alloc (.cells x.toArray 133)):=(ae aW wr).alloc _;have oP:=hr.mono (fun _ _ h=>h.dt iv);have fu:=cO.alloc (.cells x.toArray 133);have Da:=vO.mono (fun _ _ h=>h.mono (fun _ _ h=>h.dt iv));have uf:=cN.trans iv;have jJ:w.heap.size<=wr.heap.size:=cN.size;have fy:=O (ug base r gs[k] _ bF oP);rw[<-HX.o]at fy;clear hr oP iv dX iM hcell cO vO cN
   generalize wr.alloc (.cells x.toArray 133)=W2 at *
   refine fy.o.mono ?_;rintro e w3 Mu;obtain⟨r3,rfl,rh,qw,ik⟩:=Mu;have fk:=fu.fr ik (fun _ _ h=>h);have Db:=Da.mono (fun _ _ h=>h.mono (fun _ _ h=>h.dt ik));have ij:=uf.trans ik;clear fy fu Da uf ik;obtain⟨y,hy⟩:∃y,y=r3.cells:=⟨_,rfl⟩;have ET:y.length=16:=by rw[hy];rfl
   rw[<-hy]at qw ⊢;have HY:=O hy;clear hy;have GU:=O fk;clear fk;have Fq:=vC y #[.bool false,.string ⟨#[]⟩,.int .i64 0,.bool false,.string ⟨#[]⟩,.string ⟨#[]⟩,.int .i64 0,.string ⟨#[]⟩,.string ⟨#[]⟩,.string ⟨#[]⟩,.bool false,.string ⟨#[]⟩,.bool false,.slice none 0 0,.int .i64 0,.slice none 0 0] (by rw[ET];rfl);have hbw:w.heap.size<=w3.heap.size:=ij.size;have uQ:=Db.len;rw[aL,dJ hk]at uQ
   have HRL:=O uQ;have Lv:(rs.map aU.cells).length<68719476736:=by rw[aj,uQ];omega
   clear uQ;go_wp2_with (at_builtin;refine nH rfl _ _ 85 133 rfl 16 216 (.agg fc) underlying85 xS rfl ag ag w.heap.size (.slice av k cv) (rs.map aU.cells) rfl (GU.o.alloc _) w3.heap.size 1 y rfl ET qw (fun i u hi=>by rw[World.cell?_alloc_mark];simpa using hi) Lv bF ?_;intro v' w4 eU Bt)
   have Eb:=Fr.Oe _ Bt;have mK:=GU.o.off (base:=base) il ag;rw[HY.o]at eU;refine⟨⟨k+1,rs++[r3],ab,bf,by rw[bD];exact eU,?_,ij.step Eb (fun j hj hS=>by have h2:=GU.o.block j hS;omega)⟩,by simp[intOf];omega⟩;rw[dT (List.getElem?_eq_getElem fx)];exact(Db.mono (fun _ _ h=>h.mono (fun _ _ h=>h.fr Eb mK))).app (.cons (rh.mono (fun _ _ h=>h.fr Eb mK)) .nil)
  ·rw[aD ab]at vO;obtain⟨av,cv,TI⟩:=cO.form;subst TI;go_wp2;go_ret;exact⟨_,rfl,⟨⟨rs,cO.up il,vO⟩,cO.block⟩,cN⟩
theorem JT{α:Type}(f:α->Int):∀(l:List α) (i:Nat) (acc:Int×Int),(∃k,k<l.length/\(oG f l i acc).2=((i+k:Nat):Int))\/(oG f l i acc).2=acc.2
 |[],_,_=>Or.inr rfl
 |g :: l,i,acc=>by
  rw[oG];rcases JT f l (i+1) (if 0<=f g/\acc.1<=f g then(f g,(i:Int))else acc)with ⟨k,hk,h⟩|h
  ·exact Or.inl ⟨k+1,bF,by rw[h];congr 1;omega⟩
  ·rw[h];by_cases hc:0<=f g/\acc.1<=f g
   ·rw[aA hc];exact Or.inl ⟨0,aQ,aQ⟩
   ·rw[ar hc];exact Or.inr rfl
theorem TJ(gs:List (aU bE))(o:gy)(proxy:Bool)(path:ai):(∃k,k<gs.length/\tD gs o proxy path=(k:Int))\/tD gs o proxy path= -1:=by
 rcases JT (pA o proxy path) gs 0 (-1, -1)with ⟨k,hk,h⟩|h
 ·exact Or.inl ⟨k,hk,by unfold tD;rw[h,bj]⟩
 ·exact Or.inr h
def tE(base:Nat)(w:World)(m:Option (aU bE))(e:Ending)(w':World):Prop :=
 Fr aW w w'/\match m with
 |none=>e=.returned (.tuple #[.agg fc,.bool false])
 |some g=>∃r:aU Value,e=.returned (.tuple #[.agg r.cells.toArray,.bool true])/\r.Reads (cZ base w') g/\∀u∈r.cells,u.oneCell'=true
theorem VV(name value:ai)(w:World)(hn:name.size<=140737488351232)(hv:value.size<=140737488351232) :
  aC 67 #[.agg #[.string name,.string value]] w fun e w'=>e=.returned (.bool (decide ((300:Int)<(name.size:Int)+(value.size:Int))))/\Fr aW w w':=by
 have j6:Fr aW w (w.alloc (.cells #[.string name,.string value] 142)):=(ae aW w).alloc _;go_enter func67,ntmps67;go_wp2;go_ret;exact⟨rfl,j6⟩
structure en where
 cQ:gy
 o:gy
 path:ai
 query:ai
 fF:Bool
 method:ai
 head:ai
 pE:Int
def en.cells(p:en):aX:=[.bool p.cQ.aG,.string p.cQ.host,.int .i64 p.cQ.port,.bool p.o.aG,.string p.o.host,.int .i64 p.o.port,.string p.path,.string p.query,.bool p.fF,.string p.method,.string p.head,.int .i64 p.pE]
def en.kQ(p q:en):Bool:=p.cQ.kQ q.cQ&&(p.o.kQ q.o&&(p.path.toList==q.path.toList&&(p.query.toList==q.query.toList&&(p.fF==q.fF&&(p.method.toList==q.method.toList&&(p.head.toList==q.head.toList&&p.pE==q.pE))))))
theorem en.yw(p q:en):p.kQ q=true↔p=q:=by
 obtain⟨a,d,g,i,j,k,l,m⟩:=p;obtain⟨a',d',g',i',j',k',l',m'⟩:=q;simp only[en.kQ,cy,dQ,en.mk.injEq,toList_inj,gy.yw]
def star:aH:=[42]
def ZH:aH:=[97,117,116,104,111,114,105,122,97,116,105,111,110]
def en.lets(m:ai)(fF:Bool)(p:en):Bool:=p.method.toList==m.toList||(p.method.toList==star&&!fF)
def en.mO(h:ai)(fF:Bool)(p:en):Bool:=p.head.toList==h.toList||(p.head.toList==star&&(!fF&&h.toList !=ZH))
def Xc(m:ai)(fF:Bool)(ef:List ai)(ps:List en):Bool :=
 (qB m||ps.any (en.lets m fF))&&ef.all fun h=>ps.any (en.mO h fF)
structure qF where
 cQ:gy
 o:gy
 path:ai
 query:ai
 method:ai
 ef:List gU
 fF:Bool
def qF.mS(r:qF)(ps:List en):Bool:=Xc (ju r.method) r.fF (xF r.ef) ps
def qF.needs(r:qF):Bool:=!r.cQ.kQ r.o&&!r.mS []
def en.like(p q:en):Bool:=({p with pE:=q.pE}:en).kQ q
def en.alive(now:Int)(p:en):Bool:=decide (now<p.pE)
def Ej(b:List en)(p:en):List en:=(b.filter fun q=>!p.like q)++[p]
def tV(b l:List en)(now:Int):List en :=
 let c:=(l.foldl Ej b).filter (en.alive now)
 c.drop (c.length-32)
def qF.SG(r:qF)(now:Int)(p:en):Bool:=p.alive now&&(p.cQ.kQ r.cQ&&((p.o.kQ r.o&&(p.path.toList==r.path.toList&&p.query.toList==r.query.toList))&&(p.fF||!r.fF)))
def iL(b:List en)(r:qF)(now:Int):List en:=b.filter (r.SG now)
def mj(b:List en)(r:qF)(now:Int):Bool:=!r.needs||r.mS (iL b r now)
theorem Ji(b l:List en)(now:Int):(tV b l now).length<=32:=by
 unfold tV;simp only[bH];omega
theorem SH(b:List en)(p:en):(Ej b p).length<=b.length+1:=by
 unfold Ej;have:=bR (fun q=>!p.like q) b;simp;omega
theorem Jj:∀(l:List en) (b:List en),(l.foldl Ej b).length<=b.length+l.length
 |[],b=>aQ
 |p :: l,b=>by
  have h1:=Jj l (Ej b p);have h2:=SH b p;simp only[List.foldl_cons,List.length_cons];omega
def Oc:Bs:=[117,115,101,114,110,97,109,101]
def Xh:Bs:=[117,114,105]
def Od:Bs:=[114,101,115,112,111,110,115,101]
def nNc:Bs:=[110,99]
def BU:Bs:=[99,110,111,110,99,101]
def abr:Bs:=[68,105,103,101,115,116]
def o7(scheme:Int)(cD:Bool):Bs:=(if scheme=3 then Gn else xC)++(if cD then yz else [])
structure iH where
 scheme:Int
 aP:Bs
 bz:Bs
 cC:Bs
 cD:Bool
 eY:Bs
 user:Bs
 uri:Bs
 Pz:Bs
 bI:Bs
 count:Bs
def qP(n v:Bs):jh×Bs:=((n,v),fI v)
def pP(n v:Bs):jh×Bs:=((n,v),v)
def iH.head(d:iH):List (jh×Bs):=[qP Oc d.user,qP vr d.aP,qP vt d.bz,qP Xh d.uri,qP Od d.Pz,pP yy (o7 d.scheme d.cD)]
def iH.two(d:iH):List (jh×Bs):=if d.eY.isEmpty then []else [pP I7 d.eY,pP nNc d.count]
def iH.cn(d:iH):List (jh×Bs):=if !d.eY.isEmpty||d.cD then [qP BU d.bI]else []
def iH.op(d:iH):List (jh×Bs):=if d.cC.isEmpty then []else [qP lS d.cC]
def iH.yH(d:iH):List (jh×Bs):=d.head++(d.two++(d.cn++d.op))
def iH.fair(d:iH):Bool:=nQ d.user&&(nQ d.aP&&(nQ d.bz&&(nQ d.uri&&(nQ d.Pz&&((!(!d.eY.isEmpty||d.cD)||nQ d.bI)&&(d.cC.isEmpty||nQ d.cC))))))
def iH.text(d:iH):Bs:=abr++32 :: xa d.yH
theorem E7(s cs:ai)(w:World)(hcs:cs.size<4294967281)(LM:∀b∈cs.data.toList,b.toNat<128) :
  aC 213 #[.string s,.string cs] w fun e w'=>e=.returned (.string ⟨(s.data.toList.dropWhile (cs.data.toList.contains ·)).toArray⟩)/\Fr aW w w':=by
 refine(Any.strings_TrimLeft_laid WI af s cs w hcs (fun j b hj=>LM b (cA hj))).mono ?_;rintro e w'⟨he,hb⟩;exact⟨he,fe hb⟩
theorem BW{x:Int}(h: -9223372036854775808<=x)(h2:x<9223372036854775808):IntKind.i64.wrap x=x:=by
 simp[IntKind.wrap,IntKind.signed,IntKind.bits];omega
def abt:ai:=⟨Sr.toArray⟩
theorem PC:∀b∈abt.data.toList,b.toNat<128:=dp
def GA(s:ai)(i:Nat):Nat:=(lQ (s.data.toList.drop i)).length
def RC(s:ai)(i:Nat):Nat:=(nx (s.data.toList.drop i)).length
theorem aff(s:ai)(h:i<=s.size):i+GA s i+RC s i<=s.size:=by
 have h1:=px Eg (s.data.toList.drop i);have h2:=px kQ ((s.data.toList.drop i).dropWhile Eg);unfold GA RC lQ nx;simp at h1;omega
theorem drop_take{p:UInt8->Bool}(l:Bs)(i:Nat):l.drop (i+((l.drop i).takeWhile p).length)=(l.drop i).dropWhile p:=by
 rw[<-ep, <-ot]
theorem yL(s:ai)(i:Nat):s.data.toList.drop (i+GA s i)=(s.data.toList.drop i).dropWhile Eg:=drop_take _ _
theorem CD(s:ai)(i:Nat):s.data.toList.drop (i+GA s i+RC s i)=rT (s.data.toList.drop i):=by
 unfold RC nx rT;rw[<-yL];exact drop_take _ _
theorem yM(s:ai)(i:Nat):(s.extract i s.size).data.toList=s.data.toList.drop i:=by
 rw[Lib.extract_data,aD aQ]
theorem Xk(s:ai)(i:Nat):s.extract i (i+GA s i+RC s i)=⟨(lQ (s.data.toList.drop i)++nx (s.data.toList.drop i)).toArray⟩:=by
 apply Go.WideShapes.bytes_inj;rw[Lib.extract_data];show _=lQ (s.data.toList.drop i)++nx (s.data.toList.drop i);have e1:lQ (s.data.toList.drop i)++(nx (s.data.toList.drop i)++rT (s.data.toList.drop i))=s.data.toList.drop i:=by
  unfold lQ nx rT;rw[List.takeWhile_append_dropWhile,List.takeWhile_append_dropWhile]
 have e2:i+GA s i+RC s i-i=(lQ (s.data.toList.drop i)++nx (s.data.toList.drop i)).length:=by
  unfold GA RC;rw[aM];omega
 have key:∀(A B Z D:Bs),A++(B++Z)=D->D.take (A++B).length=A++B:=by
  intro A B Z D h;subst h;rw[<-cH,List.take_left' rfl]
 rw[e2];exact key _ _ _ _ e1
def ml(c i:Nat)(s:ai)(w:World)(e:Ending)(w':World):Prop :=
 Fr (one c) w w'/\match singleR (s.data.toList.drop i)with
  |some q=>e=.returned (.tuple #[.string ⟨q.1.toArray⟩,.bool true])/\∃j,j<=s.size/\dk w' c s j/\s.data.toList.drop j=q.2
  |none=>e=.returned (.tuple #[.string ⟨#[]⟩,.bool false])/\dk w' c s i
theorem ml.hit{q:Bs×Bs}(h:singleR (s.data.toList.drop i)=some q)(hf:Fr (one c) w w')(hj:j<=s.size)(hc:dk w' c s j)(hd:s.data.toList.drop j=q.2) :
  ml c i s w (.returned (.tuple #[.string ⟨q.1.toArray⟩,.bool true])) w':=by
 refine⟨hf,?_⟩;rw[h];exact⟨rfl,j,hj,hc,hd⟩
theorem ml.no(h:singleR (s.data.toList.drop i)=none)(hf:Fr (one c) w w')(hc:dk w' c s i) :
  ml c i s w (.returned (.tuple #[.string ⟨#[]⟩,.bool false])) w':=by
 refine⟨hf,?_⟩;rw[h];exact⟨rfl,hc⟩
theorem Fr.mU(h:Fr aW w w'):Fr S w w':=h.mono (fun _ _ h=>absurd h id)
theorem L0(b c i:Nat)(s:ai)(v:Value)(w:World)(hr:iu w b c s v)(h:dk w c s i)(hs:s.size<100000)(hi:i<=s.size) :
  aC 170 #[.pointer (some ⟨b,0,none⟩)] w (ml c i s w):=by
 have hm:s.size<=maxLen:=fl;have q0:=hr.cell0;have q1:=hr.gV;have hle:=aff s hi;have HD1:=O (yL s i);have HD2:=O (CD s i);have HT:=O (Xk s i);have HR:=O (show singleR (s.data.toList.drop i)=if decide (0<GA s i)&&nS (s.data.toList.drop (i+GA s i+RC s i))then some (lQ (s.data.toList.drop i)++nx (s.data.toList.drop i),eS (s.data.toList.drop (i+GA s i+RC s i)))else none by
  unfold singleR;rw[CD];have:(!(lQ (s.data.toList.drop i)).isEmpty)=decide (0<GA s i):=by
   unfold GA;cases lQ (s.data.toList.drop i)<;>simp
  rw[this])
 have T1:=O (show∀U,aC 213 #[.string (s.extract i s.size),.string abt] U fun e w'=>e=.returned (.string (s.extract (i+GA s i) s.size))/\Fr aW U w' from fun U=>by
  have e1:s.extract (i+GA s i) s.size=⟨((s.extract i s.size).data.toList.dropWhile (abt.data.toList.contains ·)).toArray⟩:=by
   apply Go.WideShapes.bytes_inj;rw[yM,yM,yL];rfl
  rw[e1];exact E7 _ _ U ag PC)
 have T2:=O (show∀U,aC 213 #[.string (s.extract (i+GA s i) s.size),.string ⟨#[61]⟩] U fun e w'=>e=.returned (.string (s.extract (i+GA s i+RC s i) s.size))/\Fr aW U w' from fun U=>by
  have e1:s.extract (i+GA s i+RC s i) s.size=⟨((s.extract (i+GA s i) s.size).data.toList.dropWhile ((⟨#[61]⟩:ai).data.toList.contains ·)).toArray⟩:=by
   apply Go.WideShapes.bytes_inj;rw[yM,yM,yL,CD];rfl
  rw[e1];exact E7 _ _ U ag ag)
 generalize hN:GA s i=N at *
 generalize hM:RC s i=M at *
 clear hN hM;generalize lQ (s.data.toList.drop i)++nx (s.data.toList.drop i)=TX at *
 have hJ1:i<=i+N:=ab;have hJ2:i+N<=i+N+M:=ab;have hJN:i+N-i=N:=ab;have hLM:i+N+M-(i+N)=M:=ab;generalize hL:i+N+M=L at *
 generalize hJ:i+N=J at *
 have E1:=O hJ;have E2:=O hL;clear hL hJ;have HNM:=O (And.intro hJN hLM);clear hJN hLM;have kI:(s.extract i s.size).size=s.size-i:=by rw[f_];omega
 have kS:(s.extract J s.size).size=s.size-J:=by rw[f_];omega
 have SK:(s.extract L s.size).size=s.size-L:=by rw[f_];omega
 have W1:=O (show IntKind.i64.wrap (((s.size-i:Nat):Int)-((s.size-J:Nat):Int))=(N:Int)by
  have e:=HNM.o.1;rw[show(((s.size-i:Nat):Int)-((s.size-J:Nat):Int))=(N:Int)from ab];exact BW ab ab)
 have W2:=O (show IntKind.i64.wrap (((s.size-J:Nat):Int)-((s.size-L:Nat):Int))=(M:Int)by
  have e:=HNM.o.2;rw[show(((s.size-J:Nat):Int)-((s.size-L:Nat):Int))=(M:Int)from ab];exact BW ab ab)
 have W3:=O (show IntKind.i64.wrap ((i:Int)+(N:Int))=(J:Int)by
  have e:=HNM.o.1;rw[show((i:Int)+(N:Int))=(J:Int)from ab];exact BW ab ab)
 have W4:=O (show IntKind.i64.wrap ((J:Int)+(M:Int))=(L:Int)by
  have e:=HNM.o.2;rw[show((J:Int)+(M:Int))=(L:Int)from ab];exact BW ab ab)
 have Of:=O (show∀U,Fr aW w U->iu U b c s v/\dk U c s i from fun U hU=>⟨hr.fr hU id,h.fr hU id⟩);go_enter func170,ntmps170;go_wp2_with fail
 refine(zX c s i w h).mono ?_;rintro e w0⟨rfl,rfl⟩;have b1:(0:Int)<=(i:Int):=ab;have b2:(i:Int)<=(s.size:Int):=ab;go_wp2_with fail
 go_region_held3 (fun U=>U.cell? ⟨b,1,none⟩=some (.string s)) ((refine(Of.o _ ?_).1.gV;repeat(first|exact ae _ _|apply bq|apply az|refine bC ?_ jL))) ((go_at_call 213;refine(T1.o _).mono ?_;rintro e v1 ⟨rfl,H'⟩))
 rw[W1.o];obtain⟨BV,pJ⟩:=Of.o v1 (by repeat(first|exact ae _ _|apply bq|apply az|apply dE|refine bC ?_ jL));have lB:=O (show Fr aW w v1 from(by repeat(first|exact ae _ _|apply bq|apply az|apply dE|refine bC ?_ jL)));clear H';have q1:=BV.gV;have b3:(0:Int)<=(J:Int):=ab;have b4:(J:Int)<=(s.size:Int):=ab;have w3:=W3.o;go_wp2_with fail
 go_region_held3 (fun U=>U.cell? ⟨b,1,none⟩=some (.string s)) ((refine(Of.o _ ?_).1.gV;repeat(first|exact ae _ _|exact lB.o|apply bq|apply az|refine bC ?_ jL))) ((go_at_call 213;refine(T2.o _).mono ?_;rintro e v2 ⟨rfl,hv2⟩))
 rw[W2.o];obtain⟨oP,sW⟩:=Of.o v2 (by repeat(first|exact ae _ _|exact lB.o|apply bq|apply az|apply dE|refine bC ?_ jL));have fS:=O (show Fr aW w v2 from(by repeat(first|exact ae _ _|exact lB.o|apply bq|apply az|apply dE|refine bC ?_ jL)));clear hv2 q1 BV pJ;have q0:=oP.cell0;have q1:=oP.gV;have w4:=W4.o;go_wp2_with fail
 refine(xB c s i L v2 sW hm).mono ?_;rintro e v3⟨rfl,tP,ik⟩;rw[tX hle]at tP;have rh:=oP.one sW ik;have ij:=O (fS.o.mU.trans ik);have q0:=rh.cell0;have q1:=rh.gV;by_cases Og:0<N
 ·have n0:(0:Int)<(N:Int):=ab;rw[bK Og,Bool.true_and]at HR;go_wp2_with fail
  refine(CC b c L s v v3 rh tP hm hle).mono ?_;rintro e v4⟨rfl,tM,kz⟩;have vh:=rh.one tP kz;have q0:=vh.cell0;have q1:=vh.gV;have BX:=O (oy s L);have ZN:=xJ (s:=s) hle;cases ho:nS (s.data.toList.drop L)
  ·rw[ho]at HR;go_wp2_with fail
   refine(xB c s _ i v4 tM hm).mono ?_;rintro e v5⟨rfl,tN,lC⟩;rw[tX hi]at tN;go_wp2;go_ret2;exact ml.no (by rw[HR.o];rfl) ((ij.o.trans kz).trans lC) tN
  ·rw[ho]at HR;have b5:(i:Int)<=(L:Int):=ab;have b6:(L:Int)<=(s.size:Int):=ab;have b7:(0:Int)<=(L:Int):=ab;go_wp2;go_ret2;rw[HT.o];exact ml.hit (q:=(TX,eS (s.data.toList.drop L))) (by rw[HR.o];rfl) (ij.o.trans kz) ZN tM BX.o
 ·have n0:¬(0:Int)<(N:Int):=ab;rw[bB Og,kf]at HR;go_wp2_with fail
  refine(xB c s _ i v3 tP hm).mono ?_;rintro e v5⟨rfl,tN,lC⟩;rw[tX hi]at tN;go_wp2;go_ret2;exact ml.no (by rw[HR.o];rfl) (ij.o.trans lC) tN
