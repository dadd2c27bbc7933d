/- Lemmas for the law's walk. -/
import Derived.Test.YtjndhcngnghpiaaGreatDoorPp7
import Derived.Lib.ItoaLen
set_option maxRecDepth 100000
set_option maxHeartbeats 16000000
set_option linter.unusedSimpArgs false
namespace Go.Proofs.YtjndhcngnghpiaaGreatDoor
open Go.Proofs.Tryz
open Go.RowKit Go.Sort
variable {k base n i g j c:Nat} {w w':World} {v u:Value} {ss:List ai} {r z:Bs} {ps:List jn} {p:jn} {S:dB} {l:aK} {s:ai}
abbrev gT:=ai×ai
def gT.cells(p:gT):a_:=[.string p.1,.string p.2]
def ot(w:World)(v:Value)(ps:List gT):Prop:=ez 2 w v (ps.map gT.cells)
def sF(s:ai):ai:=⟨(mX s.data.toList).toArray⟩
def vp(ps:List gT):List ai:=(ps.filter fun p=>!lK p.1 p.2).map fun p=>sF p.1
def Hg(ps:List gT):List ai:=(ps.filter fun p=>lK p.1 p.2).map fun p=>sF p.1
def nB(ps:List gT):Nat:=((ps.filter fun p=>lK p.1 p.2).map fun p=>p.2.size).sum
def FX(ps:List gT):List ai:=vp ps++(if 1024<nB ps then Hg ps else [])
def aaZ(ps:List gT):List (aK):=Lib.compact (tT ((FX ps).map fun s=>s.data.toList))
def xv(ps:List gT):List ai:=(aaZ ps).map fun l=>⟨l.toArray⟩
theorem FY(ps:List gT)(p:gT)(h:lK p.1 p.2=false):vp (ps++[p])=vp ps++[sF p.1]/\Hg (ps++[p])=Hg ps/\nB (ps++[p])=nB ps:=by
 unfold vp Hg nB;simp[cC,h]
theorem DV(ps:List gT)(p:gT)(h:lK p.1 p.2=true):vp (ps++[p])=vp ps/\Hg (ps++[p])=Hg ps++[sF p.1]/\nB (ps++[p])=nB ps+p.2.size:=by
 unfold vp Hg nB;simp[cC,h]
theorem Wy(ps:List gT):(vp ps).length<=ps.length:=by unfold vp;rw[aj];exact bR _ _
theorem aa0(ps:List gT):(Hg ps).length<=ps.length:=by unfold Hg;rw[aj];exact bR _ _
theorem II{a b:ai}(h:lK a b=true):b.size<=128:=by
 unfold lK at h;split at h
 ·cases h
 ·omega
theorem Zl:∀ps:List gT,nB ps<=128*ps.length
 |[]=>by simp[nB]
 |p :: ps=>by
  have ih:=Zl ps;unfold nB at ih ⊢;rw[List.filter_cons];split
  ·rename_i h;have:=II h;simp only[cA,List.sum_cons,List.length_cons];omega
  ·simp only[List.length_cons];omega
theorem OM{α:Type}{l:List α}{x:α}(h:l[k]?=some x):l.take (k+1)=l.take k++[x]:=by
 rw[cD,h];rfl
def vq(u v:Value):Prop:=∀k,u.ownBlock=some k->v.ownBlock≠some k
def aeR(ps:List gT)(w:World)(out plain n i:Value)(wr:World):Prop :=
 ∃k:Nat,k<=ps.length/\i=.int .i64 k/\n=.int .i64 (nB (ps.take k))/\Strs w.heap.size wr out (vp (ps.take k))/\Strs w.heap.size wr plain (Hg (ps.take k))/\vq out plain/\Fr aX w wr
theorem Strs.lt(h:Strs base w v ss):∀k,v.ownBlock=some k->base<=k/\k<w.heap.size:=World.ownsRow.lt h
theorem Strs.kept{row:Option Nat}(h:Strs base w v ss)(hg:w.grownBy w' row)(hne:∀k,row=some k->v.ownBlock≠some k):Strs base w' v ss:=by
 refine World.ownsRow.kept h hg ?_;cases hv:v.ownBlock with
 |none=>exact Or.inl rfl
 |some k=>exact Or.inr fun e=>hne k e.symm hv
theorem vq.sep{v2:Value}(h:vq u v)(hs:Sep w v v2)(hu:Strs base w u ss):vq u v2:=by
 intro k hk e;rcases hs with hs|hs
 ·rw[hs]at e;exact h k hk e
 ·have h1:=hs k e;have h2:=(hu.lt k hk).2;omega
theorem vq.symm(h:vq u v):vq v u:=fun k hv hu=>h k hu hv
theorem R8(ss:List ai):ss.map Value.string=(ss.map fun s=>s.data.toList).map encStr:=by
 rw[gZ];rfl
def R9(ls:List (aK)):List ai:=ls.map fun l=>⟨l.toArray⟩
theorem FZ(ls:List (aK)):(R9 ls).map Value.string=ls.map encStr:=by unfold R9;rw[gZ];rfl
theorem Ey(base:Nat)(v:Value)(ss:List ai)(w:World)(h:Strs base w v ss)(hl:ss.length<1000000) :
  aE 183 #[v] w fun e w'=>e=.returned (.tuple #[])/\Strs base w' v (R9 (tT (ss.map fun s=>s.data.toList)))/\w.grownBy w' v.ownBlock:=by
 have h2:w.ownsRow base 9 1 v (ss.map fun s=>s.data.toList).length ((ss.map fun s=>s.data.toList).map encStr):=by
  rw[<-R8,aj];exact h
 refine(R2 base v _ w h2 (by rw[aj];exact hl)).mono ?_;rintro e w'⟨he,ho,hg⟩;refine⟨he,?_,hg⟩;unfold Strs;rw[FZ,show(R9 (tT (ss.map fun s=>s.data.toList))).length=(ss.map fun s=>s.data.toList).length from by unfold R9 tT;simp];exact ho
theorem yv(base:Nat)(v:Value)(ls:List (aK))(w:World)(h:Strs base w v (R9 ls))(hl:ls.length<1000000) :
  aE 184 #[v] w fun e w'=>∃u,e=.returned u/\Strs base w' u (R9 (Lib.compact ls))/\w.grownBy w' v.ownBlock:=by
 have e1:(R9 ls).length=ls.length:=by unfold R9;simp
 have h2:w.ownsRow base 9 1 v ls.length (ls.map encStr):=by
  rw[<-FZ, <-e1];exact h
 refine(IG base v ls w h2 hl).mono ?_;rintro e w'⟨u,he,ho,hg⟩;refine⟨u,he,?_,hg⟩;unfold Strs;rw[FZ,show(R9 (Lib.compact ls)).length=(Lib.compact ls).length from by unfold R9;simp];exact ho
theorem Ez(ps:List gT)(v:Value)(w:World)(h:ot w v ps)(hl:ps.length<100000)(hz:∀p∈ps,p.1.size<100000/\p.2.size<100000) :
  aE 128 #[v] w fun e w'=>∃u,e=.returned u/\Strs w.heap.size w' u (xv ps)/\Fr aX w w':=by
 obtain⟨av,cv,hv⟩:=h.form;rw[aj]at hv;have HZ:=O hz;clear hz;subst hv;go_enter func128,ntmps128;go_wp2;go_loopw[3,4,5,11] (aeR ps w) (fun _ _ _ i _=>ps.length-(intOf i).toNat)
 case atStart=>exact⟨0,aW _,rfl,rfl,kA _ _,kA _ _,fun k e=>by simp[Value.ownBlock]at e,ae _ _⟩
 case round =>
  obtain⟨k,hk,rfl,rfl,ho,hp,Wz,cR⟩:=hrel;obtain⟨ao,co,OO⟩:=ho.form;obtain⟨ap,cp,hpe⟩:=hp.form;have hn:=Zl (ps.take k);rw[aQ]at hn;have Q7:=Wy (ps.take k);have DI:=aa0 (ps.take k);rw[aQ]at Q7 DI;by_cases fE:k<ps.length
  ·have qm:(k:Int)<(ps.length:Int):=ab;have dT:=O (List.getElem?_eq_getElem fE);have xl:=HZ.o _ (bQ fE);generalize ps[k]=p at dT xl;obtain⟨nm,vl⟩:=p;obtain⟨kP,kR⟩:=xl;have OP:=O (OM dT.o);have lJ:ez 2 wr (.slice av ps.length cv) (ps.map gT.cells):=bM h cR;rcases lJ.2 with ⟨_,_,_,e,_⟩|⟨bk,of,c,dw,h1,h2,h3,h4⟩
   ·have:ps.length=0:=by have:=ar List.length e;simpa using this
    omega
   rw[aj]at dw h1;cases dw;unfold maxLen at h2;have hcell:=h4 k (gT.cells (nm,vl)) (by rw[List.getElem?_map,dT.o];rfl);have c0:wr.cell? ⟨bk,of+k*2,none⟩=some (.string nm):=hcell 0 (.string nm) rfl;have c1:=hcell 1 (.string vl) rfl;clear hcell h4 lJ;obtain⟨wb,jP⟩:∃wb,wb=wr.alloc (.cells #[.string nm,.string vl] 142):=⟨_,rfl⟩;have kf:Fr aX wr wb:=by rw[jP];exact(ae aX wr).alloc _
   have l_:wb.heap[wr.heap.size]?=some (.cells #[.string nm,.string vl] 142 (0,0)):=by rw[jP];exact aC _ _
   have HC:=O (show∀U,Fr aX wb U->U.cell? ⟨wr.heap.size,0,none⟩=some (.string nm)/\U.cell? ⟨wr.heap.size,1,none⟩=some (.string vl)from fun U hU=>by
    have j1:=hU.keep l_ id;simp[World.cell?,j1])
   have qB:=O jP;have lV:=O (cR.trans kf);have HO:=O (ho.fr kf (fun _ h=>h.elim));have HP:=O (hp.fr kf (fun _ h=>h.elim));have akw:=O (show∀j,(Value.slice ap (Hg (ps.take k)).length cp).ownBlock=some j->j<wr.heap.size from fun j hj=>(hp.lt j (by rw[hpe];exact hj)).2);clear jP kf l_ ho hp cR;go_wp2_with fail
   rw[<-qB.o];refine(qM nm wb ab).mono ?_;rintro e u1⟨rfl,dw⟩;obtain⟨k0,k1⟩:=HC.o u1 dw;have lA:=O dw;clear dw c0 c1;go_wp2_with fail
   refine(OK nm vl u1 ab ab).mono ?_;rintro e u2⟨rfl,dF⟩;obtain⟨k2,k3⟩:=HC.o u2 (lA.o.trans dF);have fR:=O ((lV.o.trans lA.o).trans dF);have yw:=lA.o.trans dF;have K3A:=O (show∀o:Obj,(u2.alloc o).cell? ⟨wr.heap.size,1,none⟩=some (.string vl)from fun o=>(HC.o _ (yw.alloc o)).2);have qD:=HO.o.fr yw (fun _ h=>h.elim);have EA:=HP.o.fr yw (fun _ h=>h.elim);have wG:w.heap.size<=u2.heap.size:=fR.o.size
   rw[OO]at qD Wz;rw[hpe]at EA Wz;clear dF yw k0 k1;have HLA:=O (show(⟨(mX nm.data.toList).toArray⟩:ai)=sF nm from rfl);rw[HLA.o];generalize hla:sF nm=la at *
   have HE:=O hla;clear hla;cases R_:lK nm vl
   ·obtain⟨s1,s2,s3⟩:=FY (ps.take k) (nm,vl) R_;rw[<-OP.o,HE.o]at s1;rw[<-OP.o]at s2 s3;have S1:=O s1;have S2:=O s2;have S3:=O s3;clear s1 s2 s3 R_;go_wp2_with (at_builtin;refine AA rfl _ _ rfl w.heap.size (.slice ao _ co) (vp (ps.take k)) rfl (by apply iq;exact qD) ⟨u2.heap.size,0,none⟩ 1 la rfl (jk _ _ _ _) ab bH ?_;intro v' w3 fo Bt Sa)
    have hp3:Strs w.heap.size w3 (.slice ap (Hg (ps.take k)).length cp) (Hg (ps.take k)):=(EA.alloc _).kept Bt (fun j hj=>Wz j hj);have aa4:vq v' (.slice ap (Hg (ps.take k)).length cp):=(vq.sep Wz.symm Sa (EA.alloc _)).symm;have il:=O ((fR.o.alloc (.cells #[.string la] 9)).fJ Bt (fun j hj=>(qD.block j hj)));go_roundw
    case rel=>exact⟨k+1,ab,bh,by rw[S3.o],by rw[S1.o];exact fo,by rw[S2.o];exact hp3,aa4,il.o⟩
    case measure=>simp[intOf];omega
   ·obtain⟨s1,s2,s3⟩:=DV (ps.take k) (nm,vl) R_;have Q8:=II R_;rw[<-OP.o,HE.o]at s2;rw[<-OP.o]at s1 s3;have S1:=O s1;have S2:=O s2;have S3:=O s3;clear s1 s2 s3 R_
    go_wp2_with (at_builtin;refine AA rfl _ _ rfl w.heap.size (.slice ap _ cp) (Hg (ps.take k)) rfl (by apply iq;exact EA) ⟨u2.heap.size,0,none⟩ 1 la rfl (jk _ _ _ _) ab bH ?_;intro v' w3 fo Bt Sa;have k4:w3.cell? ⟨wr.heap.size,1,none⟩=some (.string vl):=Bt.cell (K3A.o _) (fun e=>absurd (akw.o _ e.symm) (Nat.lt_irrefl _)))
    have xx:Strs w.heap.size w3 (.slice ao (vp (ps.take k)).length co) (vp (ps.take k)):=(qD.alloc _).kept Bt (fun j hj hj2=>Wz j hj2 hj);have aa4:vq (.slice ao (vp (ps.take k)).length co) v':=vq.sep Wz Sa (qD.alloc _);have il:=O ((fR.o.alloc (.cells #[.string la] 9)).fJ Bt (fun j hj=>(EA.block j hj)));go_roundw
    case rel=>exact⟨k+1,ab,bh,by rw[S3.o];go_num,by rw[S1.o];exact xx,by rw[S2.o];exact fo,aa4,il.o⟩
    case measure=>simp[intOf];omega
  ·have qm:¬(k:Int)<(ps.length:Int):=ab;have OL:ps.take k=ps:=aG ab;rw[OL]at ho hp OO hpe hn Q7 DI ⊢;clear OL;subst OO hpe;have hs0:w.heap.size<=wr.heap.size:=cR.size;obtain⟨N,hN⟩:∃N,N=nB ps:=⟨_,rfl⟩;have HR1:=O (show 1024<N->FX ps=vp ps++Hg ps from fun e=>by unfold FX;rw[<-hN,aB e]);have Ln:=O (show¬1024<N->FX ps=vp ps from fun e=>by unfold FX;rw[<-hN,ay e,eX]);rw[<-hN]at hn ⊢;clear hN
   by_cases zz:1024<N
   ·have HR:=O (HR1.o zz);have akx:(1024:Int)<(N:Int):=ab;go_wp2_with (at_builtin;refine IH rfl _ _ rfl w.heap.size _ (vp ps) rfl ho (.slice ap (Hg ps).length cp) (Hg ps) rfl hp.at ab ab ?_;intro v2 w2 qD yh)
    rw[<-HR.o]at qD;have fR:=O (cR.fJ yh (fun j hj=>ho.block j hj));have uM:(FX ps).length<1000000:=by rw[HR.o,aM];omega
    clear yh ho hp Wz;go_wp2_with fail
    refine(Ey w.heap.size v2 (FX ps) w2 qD uM).mono ?_;rintro e w3⟨rfl,xx,Bt⟩;have il:=O (fR.o.fJ Bt (fun j hj=>qD.block j hj));go_wp2_with fail
    refine(yv w.heap.size v2 _ w3 xx (by unfold tT;simpa using uM)).mono ?_;rintro e w4⟨u,rfl,Q9,Ba⟩;have jN:=O (il.o.fJ Ba (fun j hj=>xx.block j hj));go_wp2;go_ret;exact⟨u,rfl,Q9,jN.o⟩
   ·have HR:=O (Ln.o zz);have akx:¬(1024:Int)<(N:Int):=ab;rw[<-HR.o]at ho;have uM:(FX ps).length<1000000:=by rw[HR.o];omega
    rw[<-HR.o];go_wp2_with fail
    refine(Ey w.heap.size _ (FX ps) wr ho uM).mono ?_;rintro e w3⟨rfl,xx,Bt⟩;have il:=O (cR.fJ Bt (fun j hj=>ho.block j hj));go_wp2_with fail
    refine(yv w.heap.size _ _ w3 xx (by unfold tT;simpa using uM)).mono ?_;rintro e w4⟨u,rfl,Q9,Ba⟩;have jN:=O (il.o.fJ Ba (fun j hj=>xx.block j hj));go_wp2;go_ret;exact⟨u,rfl,Q9,jN.o⟩
open Go.RowKit
def Nz(t:Bs):Prop:=∃n m:Bs,t=n++m/\n≠ []/\n.all DT=true/\m.all kM=true
def NA(p:jn):Prop:=zI p.1=true/\FO p.2=true
structure mW.Ok (x:mW):Prop where
 scheme:zI x.scheme=true
 token:x.token=[]\/(x.params=[]/\Nz x.token)
 re:x.params.length<=16
 yx:∀p∈x.params,NA p
 apart:∀(i j:Nat) p q,i<j->x.params[i]?=some p->x.params[j]?=some q->dH p.1 q.1=false
theorem taken(p:UInt8->Bool):∀l:Bs,(l.takeWhile p).all p=true
 |[]=>rfl
 |c :: l=>by
  cases h:p c
  ·rw[List.takeWhile_cons_of_neg (by simp[h])];rfl
  ·rw[List.takeWhile_cons_of_pos h,List.all_cons,h,taken p l];rfl
theorem Cb(h:(gQ r).isEmpty=false):zI (gQ r)=true:=by
 unfold zI;rw[h];have:(gQ r).all fO=true:=taken fO r;rw[this];rfl
theorem Cc:∀(f:Nat) (r a z:Bs),r.length<=f->uY r=some (a,z)->a.all mY=true
 |0,r,a,z,hf,h=>by
  have:r=[]:=b_ ab;subst this;rw[uY.eq_def]at h;simp at h
 |f+1,[],a,z,hf,h=>by rw[uY.eq_def]at h;simp at h
 |f+1,x :: r,a,z,hf,h=>by
  rw[uY.eq_def]at h;simp only at h;by_cases h1:(x==34)=true
  ·rw[aB h1]at h;cases h;rfl
  ·rw[ay h1]at h;by_cases h2:(x==92)=true
   ·rw[aB h2]at h;cases r with
    |nil=>simp at h
    |cons y r' =>
     simp only at h;by_cases h3:mY y=true
     ·rw[aB h3]at h;cases hq:uY r' with
      |none=>rw[hq]at h;simp at h
      |some p =>
       rw[hq]at h;simp at h;obtain⟨rfl,rfl⟩:=h;have:=Cc f r' p.1 p.2 (by simp at hf;omega) hq;rw[List.all_cons,h3,this];rfl
     ·rw[ay h3]at h;simp at h
   ·rw[ay h2]at h;by_cases h3:mY x=true
    ·rw[aB h3]at h;cases hq:uY r with
     |none=>rw[hq]at h;simp at h
     |some p =>
      rw[hq]at h;simp at h;obtain⟨rfl,rfl⟩:=h;have:=Cc f r p.1 p.2 (by simp at hf;omega) hq;rw[List.all_cons,h3,this];rfl
    ·rw[ay h3]at h;simp at h
theorem OQ{a:Bs}(h:pj r=some (a,z)):FO a=true:=by
 unfold pj at h;unfold FO;split at h
 ·cases r with
  |nil=>cases h
  |cons c t =>
   have h':(if c==34 then uY t else none)=some (a,z):=h;by_cases hc:(c==34)=true
   ·rw[aB hc]at h';have:=Cc _ t a z (az _) h';rw[show nJ a=true from this,kd]
   ·rw[ay hc]at h';cases h'
 ·rename_i hw;cases h;rw[Cb (by simpa using hw)];rfl
theorem EC(h:kG ps r=.ok (p,z)):NA p/\tP ps p.1=false/\ps.length≠16:=by
 unfold kG at h;by_cases hn:ll r=true
 ·rw[ay (by simp[hn])]at h;cases hv:pj (nv r)with
  |none=>rw[hv]at h;cases h
  |some q =>
   rw[hv]at h;simp only at h;split at h
   ·cases h
   rename_i ht;split at h
   ·cases h
   rename_i hk;cases h;exact⟨⟨Cb (Aw hn),OQ (a:=q.1) (z:=q.2) hv⟩,by simpa using ht,hk⟩
 ·rw[aB (by simpa using hn)]at h;cases h
structure vu (ps:List jn):Prop where
 re:ps.length<=16
 yx:∀p∈ps,NA p
 apart:∀(i j:Nat) p q,i<j->ps[i]?=some p->ps[j]?=some q->dH p.1 q.1=false
theorem vu.nil:vu []:=⟨aS,aS,aS⟩
theorem vu.snoc(h:vu ps)(hp:NA p)(ht:tP ps p.1=false)(hl:ps.length≠16):vu (ps++[p]):=by
 refine⟨?_,?_,?_⟩
 ·have:=h.re;simp;omega
 ·intro q hq;rcases bO.1 hq with g|g
  ·exact h.yx q g
  ·simp at g;subst g;exact hp
 ·intro i j q q' OS hi hj;have hj':=(List.getElem?_eq_some_iff.1 hj).1;simp at hj';by_cases hjl:j<ps.length
  ·rw[List.getElem?_append_left hjl]at hj;rw[List.getElem?_append_left ab]at hi;exact h.apart i j q q' OS hi hj
  ·have e:j=ps.length:=ab;subst e;rw[List.getElem?_append_left ab]at hi;simp at hj;subst hj;unfold tP at ht;rw[fA]at ht;simpa using ht q (cL hi)
theorem Cd:∀(f:Nat) (ps:List jn) (r:Bs) (q:List jn×Bs),vu ps->gL f ps r=.ok q->vu q.1
 |0,ps,r,q,ho,h=>by rw[gL]at h;cases h;exact ho
 |f+1,ps,r,q,ho,h=>by
  rw[gL]at h;cases hp:kG ps r with
  |error e=>rw[hp]at h;cases h
  |ok p =>
   rw[hp]at h;obtain⟨p,r1⟩:=p;obtain⟨h1,h2,h3⟩:=EC hp;have DL:=ho.snoc h1 h2 h3;simp only at h;split at h
   ·split at h
    ·exact Cd f _ _ q DL h
    ·cases h;exact DL
   ·cases h
theorem Lr{t:Bs}(h:singleR r=some (t,z)):Nz t:=by
 unfold singleR at h;split at h
 ·rename_i hc;cases h;simp only[cF,Bool.not_eq_true']at hc;refine⟨_,_,rfl,fun e=>?_,?_,?_⟩
  ·rw[e]at hc;cases hc.1
  ·exact taken DT r
  ·exact taken kM _
 ·cases h
theorem NB{x:mW}(h:oQ k r=.ok (x,z)):x.Ok/\k≠8:=by
 unfold oQ at h;split at h
 ·cases h
 rename_i hw;have hw':=Cb (show(gQ r).isEmpty=false by simpa using hw);split at h
 ·cases h
 rename_i hk;refine⟨?_,hk⟩;split at h
 ·cases h;exact⟨hw',Or.inl rfl,aS,aS,aS⟩
 split at h
 ·cases h
 split at h
 ·rename_i q hq;cases h;exact⟨hw',Or.inr ⟨rfl,Lr (t:=q.1) (z:=q.2) hq⟩,aS,aS,aS⟩
 ·split at h
  ·cases h
  ·rename_i q hq;cases h;have:=Cd _ _ _ _ vu.nil hq;exact⟨hw',Or.inl rfl,this.re,this.yx,this.apart⟩
theorem ED:∀(f:Nat) (acc:List mW) (r:Bs) (l:List mW),(∀x∈acc,x.Ok)->acc.length<=8->jV f acc r=.ok l->(∀x∈l,x.Ok)/\l.length<=8
 |0,acc,r,l,ha,hl,h=>by rw[jV]at h;cases h;exact⟨ha,hl⟩
 |f+1,acc,r,l,ha,hl,h=>by
  rw[jV]at h;split at h
  ·cases h;exact⟨ha,hl⟩
  ·cases ho:oQ acc.length (ir r)with
   |error e=>rw[ho]at h;cases h
   |ok q =>
    obtain⟨x,r1⟩:=q;rw[ho]at h;obtain⟨h1,h2⟩:=NB ho;simp only at h;refine ED f _ r1 l ?_ ?_ h
    ·intro y hy;rcases bO.1 hy with g|g
     ·exact ha y g
     ·simp at g;subst g;exact h1
    ·simp;omega
theorem IP{l:List mW}(h:ma r=.ok l):(∀x∈l,x.Ok)/\l.length<=8:=by
 unfold ma at h;split at h
 ·cases h
 ·exact ED _ _ _ _ aS aS h
def OT(p:jn)(x:Bs):Bs:=p.1++61 :: x
def wS:List (jn×Bs)->Bs
 |[]=>[]
 |[p]=>OT p.1 p.2
 |p :: q :: l=>OT p.1 p.2++44 :: 32 :: wS (q :: l)
def iw(w:World)(b c:Nat)(s:ai)(v:Value):Prop:=w.heap[b]?=some (.cells #[.pointer (some ⟨c,0,none⟩),.string s,v] 205 (0,0))
section
variable {w w' : World} {b c i : Nat} {s t : ByteArray} {v : Value}
theorem iw.cell0(h:iw w b c s v):w.cell? ⟨b,0,none⟩=some (.pointer (some ⟨c,0,none⟩)):=by simp[World.cell?,show w.heap[b]?=_ from h]
theorem iw.gU(h:iw w b c s v):w.cell? ⟨b,1,none⟩=some (.string s):=by simp[World.cell?,show w.heap[b]?=_ from h]
theorem iw.lQ(h:iw w b c s v):w.cell? ⟨b,2,none⟩=some v:=by simp[World.cell?,show w.heap[b]?=_ from h]
theorem iw.free(h:iw w b c s v)(k:Nat):w.frozen? ⟨b,k,none⟩=false:=by simp[World.frozen?,show w.heap[b]?=_ from h]
theorem iw.ne(h:iw w b c s v)(g:dm w c t i):b≠c:=by
 intro e;subst e;have h':w.heap[b]?=_:=h;have g':w.heap[b]?=_:=g;rw[h']at g';simp at g'
theorem iw.fr(h:iw w b c s v)(hf:Fr S w w')(hn:¬S b):iw w' b c s v:=hf.keep h hn
theorem iw.one(h:iw w b c s v)(g:dm w c t i)(hf:Fr (one c) w w'):iw w' b c s v:=h.fr hf (fun e=>h.ne g e)
theorem iw.lt(h:iw w b c s v):b<w.heap.size:=bg h
theorem iw.drewN(h:iw w b c s v):iw (w.drewN n) b c s v:=h
end
theorem Se(l:Bs)(k:Nat)(hk:k<=l.length):cM nW l (cM dI l k)=cM nW l k:=by
 have e1:l.drop (cM nW l (cM dI l k))=l.drop (cM nW l k):=by
  rw[jU,jU,jU];exact tR _
 have h1:cM nW l (cM dI l k)<=l.length:=gR (gR hk);have h2:cM nW l k<=l.length:=gR hk;have:=ar List.length e1;simp at this;omega
theorem Ls{l:Bs}(h:l[k]?=some 44):cM nW l (k+1)=cM nW l k:=(od h ag).symm
theorem OV{l:Bs}(h:cM dI l k=k)(h2:l[k]?≠some 44):cM nW l k=k:=by
 refine lh (fun c hc=>?_);unfold nW;cases hb:dI c
 ·have:c≠44:=fun e=>h2 (by rw[hc,e]);simpa using this
 ·have:=od (p:=dI) hc hb;have h3:=lj (p:=dI) (l:=l) (i:=k+1);omega
theorem wa(s:ai)(k:Nat)(c:UInt8):j5 s k c=true↔s.data.toList[k]?=some c:=by unfold j5;simp
theorem Cf(b c i:Nat)(s:ai)(v:Value)(w:World)(hr:iw w b c s v)(h:dm w c s i)(hs:s.size<=maxLen)(hi:i<=s.size) :
  aE 118 #[.pointer (some ⟨b,0,none⟩)] w fun e w'=>e=.returned (.tuple #[])/\dm w' c s (cM nW s.data.toList i)/\Fr (one c) w w':=by
 go_enter func118,ntmps118;go_wp2;go_loopw[] (fun wr=>∃k,k<=s.size/\dm wr c s k/\cM nW s.data.toList k=cM nW s.data.toList i/\Fr (one c) w wr) (fun wr=>s.size-o9 wr c)
 case atStart=>exact⟨i,hi,h,rfl,ae _ _⟩
 case round =>
  obtain⟨k,hk,hc,pX,cR⟩:=hrel;have xm:=O pX;clear pX;have Bx:=hr.one h cR;have q0:=Bx.cell0;have pJ:=O hc.pos;have Zr:k<=s.data.toList.length:=by simpa using hk
  have HG:=O (Se s.data.toList k Zr);have l_:cM dI s.data.toList k<=s.size:=by simpa using gR (p:=dI) Zr
  have VN:k<=cM dI s.data.toList k:=lj;go_wp2_with fail
  refine(lZ c s k wr hc hs hk).mono ?_;rintro e w1⟨rfl,oP,dw⟩;have lA:=O (cR.trans dw);have pN:=Bx.one hc dw;have q1:=pN.cell0;generalize hK:cM dI s.data.toList k=K at *
  have HK:=O hK;clear hK q0;by_cases tK:k<K
  ·have hd:decide (k<K)=true:=bD tK;rw[hd];go_wp2;go_roundw
   case rel=>exact⟨K,l_,oP,HG.o.trans xm.o,lA.o⟩
   case measure=>rw[pJ.o,oP.pos];omega
  ·have hd:decide (k<K)=false:=bf tK;have hKk:K=k:=ab;subst hKk;rw[hd];go_wp2_with fail
   refine(pI c s K 44 w1 oP hs).mono ?_;rintro e w2⟨rfl,rI,dF⟩;have fR:=O (lA.o.trans dF);cases hm:j5 s K 44
   ·have iQ:=O (OV HK.o (fun e=>by rw[(wa s K 44).2 e]at hm;cases hm));rw[o8 hm]at rI;go_wp2;go_end0;rw[<-xm.o,iQ.o];exact⟨rfl,rI,fR.o⟩
   ·have iQ:=O (Ls ((wa s K 44).1 hm));rw[o7 hm]at rI;have akA:K<s.size:=by
     have:=(List.getElem?_eq_some_iff.1 ((wa s K 44).1 hm)).1;simpa using this
    go_wp2;go_roundw
    case rel=>exact⟨K+1,akA,rI,iQ.o.trans xm.o,fR.o⟩
    case measure=>rw[pJ.o,rI.pos];omega
def eK(s:ai)(i:Nat):Nat:=cM dI s.data.toList i
theorem xA(h:i<=s.size):eK s i<=s.size:=by
 unfold eK;simpa using gR (p:=dI) (l:=s.data.toList) (i:=i) (by simpa using h)
theorem ou(s:ai)(i:Nat):s.data.toList.drop (eK s i)=eU (s.data.toList.drop i):=jU _ _ _
theorem WH(s:ai)(i:Nat):nK (s.data.toList.drop i)=(decide (s.size<=eK s i)||j5 s (eK s i) 44):=by
 unfold nK;rw[<-ou];by_cases h:s.size<=eK s i
 ·rw[cO (by simpa using h)];simp[h,RT]
 ·have tK:eK s i<s.data.toList.length:=by simpa using h
  rw[cP tK,bf h,jC];unfold RT j5;rw[List.getElem?_eq_getElem tK,eW];simp
theorem tW(h:k<=n):RR (k:Int) n=k:=by unfold RR;omega
theorem Cg(b c i:Nat)(s:ai)(v:Value)(w:World)(hr:iw w b c s v)(h:dm w c s i)(hs:s.size<=maxLen)(hi:i<=s.size) :
  aE 169 #[.pointer (some ⟨b,0,none⟩)] w fun e w'=>e=.returned (.bool (nK (s.data.toList.drop i)))/\dm w' c s (eK s i)/\Fr (one c) w w':=by
 have q0:=hr.cell0;have hb:=xA hi;have HO:=O (WH s i);generalize hK:eK s i=K at *
 have HK:=O hK;clear hK;go_enter func169,ntmps169;go_wp2_with fail
 refine(lZ c s i w h hs hi).mono ?_;rintro e w1⟨rfl,oP,dw⟩;replace oP:dm w1 c s (eK s i):=oP;rw[HK.o]at oP;have Bx:=hr.one h dw;have q1:=Bx.cell0;clear q0;go_wp2_with fail
 refine(zH c s K w1 oP).mono ?_;rintro e w2⟨rfl,rfl⟩;go_wp2_with fail
 refine(vY c s K w1 oP).mono ?_;rintro e w3⟨rfl,n3,rfl⟩;have tO:dm (w1.drewN n3) c s K:=oP.drewN n3;have iG:Fr (one c) w (w1.drewN n3):=dw.drewN n3;have q3:=(Bx.drewN (n:=n3)).cell0;clear q1;by_cases he:s.size<=K
 ·have hd:decide (s.size<=K)=true:=bD he;have HO2:=O (show nK (s.data.toList.drop i)=true by rw[HO.o,hd];rfl);rw[hd];clear HO;go_wp2_with fail
  refine(xp c s K K (w1.drewN n3) tO hs).mono ?_;rintro e w4⟨rfl,tL,kH⟩;rw[tW hb]at tL;go_wp2;go_ret;rw[HO2.o];exact⟨rfl,tL,iG.trans kH⟩
 ·have hd:decide (s.size<=K)=false:=bf he;have HO2:=O (show nK (s.data.toList.drop i)=j5 s K 44 by rw[HO.o,hd];rfl);rw[hd];clear HO;go_wp2_with fail
  refine(pI c s K 44 (w1.drewN n3) tO hs).mono ?_;rintro e w4⟨rfl,tL,kH⟩;have q4:=((Bx.drewN (n:=n3)).one tO kH).cell0;clear q3;go_wp2_with fail
  refine(xp c s _ K w4 tL hs).mono ?_;rintro e w5⟨rfl,tM,lB⟩;rw[tW hb]at tM;go_wp2;go_ret;rw[HO2.o];exact⟨rfl,tM,(iG.trans kH).trans lB⟩
def Hh(s:ai)(i:Nat):Nat:=cM fO s.data.toList i
theorem F8(h:i<=s.size):Hh s i<=s.size:=by
 unfold Hh;simpa using gR (p:=fO) (l:=s.data.toList) (i:=i) (by simpa using h)
theorem vy(s:ai)(i:Nat):s.data.toList.drop (Hh s i)=ij (s.data.toList.drop i):=jU _ _ _
theorem yA(s:ai)(i:Nat):s.extract i (Hh s i)=⟨(gQ (s.data.toList.drop i)).toArray⟩:=yk _ _ _
theorem WI(s:ai)(k:Nat)(c:UInt8):Ld c (s.data.toList.drop k)=j5 s k c:=by
 unfold j5;rcases fD k s.data.toList.length with h|h
 ·rw[cP h,List.getElem?_eq_getElem h,eW];simp[Ld]
 ·rw[cO h,List.getElem?_eq_none h];simp[Ld]
theorem IW(s:ai)(i:Nat):ll (s.data.toList.drop i)=(!(gQ (s.data.toList.drop i)).isEmpty&&j5 s (eK s (Hh s i)) 61):=by
 unfold ll;rw[<-vy, <-ou,WI]
theorem toList_mk(l:Bs):(⟨l.toArray⟩:ai).toList=l:=by rw[Go.ByteArray.toList_eq]
theorem Lt(b c i:Nat)(s:ai)(v:Value)(w:World)(hr:iw w b c s v)(h:dm w c s i)(hs:s.size<=maxLen)(hi:i<=s.size) :
  aE 172 #[.pointer (some ⟨b,0,none⟩)] w fun e w'=>e=.returned (.bool (ll (s.data.toList.drop i)))/\dm w' c s i/\Fr (one c) w w':=by
 have q0:=hr.cell0;have HN:=O (IW s i);have hw:=F8 hi;go_enter func172,ntmps172;go_wp2_with fail
 refine(zH c s i w h).mono ?_;rintro e w0⟨rfl,rfl⟩;go_wp2_with fail
 refine(u_ c s i w h hs hi).mono ?_;rintro e w1⟨rfl,oP,dw⟩;replace oP:dm w1 c s (Hh s i):=oP;rw[show s.extract i (cM fO s.data.toList i)=⟨(gQ (s.data.toList.drop i)).toArray⟩from yA s i];generalize Hh s i=K at *
 generalize gQ (s.data.toList.drop i)=W at *
 have Bx:=hr.one h dw;have q1:=Bx.cell0;clear q0;go_wp2_with fail
 refine(lZ c s K w1 oP hs hw).mono ?_;rintro e w2⟨rfl,rI,dF⟩;replace rI:dm w2 c s (eK s K):=rI;have hb:=xA hw;generalize eK s K=M at *
 have pN:=Bx.one oP dF;have q2:=pN.cell0;have fR:=O (dw.trans dF);clear q1 dw dF;cases W with
 |nil =>
  have HN2:=O (show ll (s.data.toList.drop i)=false by rw[HN.o];rfl);clear HN;go_wp2_with fail
  refine(xp c s M i w2 rI hs).mono ?_;rintro e w4⟨rfl,tL,kH⟩;rw[tW hi]at tL;go_wp2;go_ret;rw[HN2.o];exact⟨rfl,tL,fR.o.trans kH⟩
 |cons x W =>
  have HN2:=O (show ll (s.data.toList.drop i)=j5 s M 61 by rw[HN.o];rfl);clear HN;go_wp2_with fail
  refine(pI c s M 61 w2 rI hs).mono ?_;rintro e w3⟨rfl,tO,iG⟩;have q3:=(pN.one rI iG).cell0;clear q2;go_wp2_with fail
  refine(xp c s _ i w3 tO hs).mono ?_;rintro e w4⟨rfl,tL,kH⟩;rw[tW hi]at tL;go_wp2;go_ret;rw[HN2.o];exact⟨rfl,tL,(fR.o.trans iG).trans kH⟩
def Rf:List Int:=[0,1,56,2,57,49,28,3,61,58,42,50,38,29,17,4,62,47,59,36,45,43,51,22,53,39,33,30,24,18,12,5,63,55,48,27,60,41,37,16,46,35,44,21,52,32,23,11,54,26,40,15,34,20,31,10,25,14,19,9,13,8,7,6]
theorem LC{W:World}{laid:List (String×DataW Unit)}(h:laidMet prog laid W)(hm:("math/bits.deBruijn64tab",Lib.tabData .u8 Rf)∈laid/\True):oz W 9 .u8 Rf :=
 vF (rj h hm.1 (g:=9) af af underlying342 underlying5 af af) af ag
theorem abt(w:World)(h:oz w 9 .u8 Rf) :
  aE 272 #[.int .u64 16] w fun e w'=>e=.returned (.int .i64 4)/\w'=w:=by
 have hc:w.cell? ⟨9,15,none⟩=some (.int .u8 4):=h.2 15 4 rfl;have hb:bits .and .u64 16 18446744073709551600=16:=cZ;have hw:IntKind.u64.wrap (-16)=18446744073709551600:=cZ;have eC:IntKind.u64.wrap (16*285870213051353865)=4573923408821661840:=cZ;have SE:IntKind.u64.wrap 4573923408821661840=4573923408821661840:=cZ;go_enter func272,ntmps272;go_wp2;go_ret;exact⟨rfl,rfl⟩
theorem SF(w:World) :
  aE 271 #[.int .i64 16] w fun e w'=>e=.returned (.bool true)/\w'=w:=by
 have hb:bits .and .i64 16 15=0:=cZ;go_enter func271,ntmps271;go_wp2;go_ret;exact⟨rfl,rfl⟩
theorem NW:∀n (h:n<16),(⟨#[48,49,50,51,52,53,54,55,56,57,97,98,99,100,101,102,103,104,105,106,107,108,109,110,111,112,113,114,115,116,117,118,119,120,121,122]⟩:ai)[n]'(Nat.lt_trans h ag)=Ck n.toUInt8:=ag
def NX(w:World)(g:Nat)(l:aK):Prop:=w.heap[g]?=some (.cells (tJ l).toArray 325 (0,0))
theorem NX.cell(h:NX w g l){c:UInt8}(hj:l[j]?=some c):w.cell? ⟨g,j,none⟩=some (.int .u8 (c.toNat:Int)):=by
 obtain⟨hl,he⟩:=List.getElem?_eq_some_iff.1 hj;unfold NX at h;simp only[World.cell?,h];simp[tJ,hl,he]
theorem NX.free(h:NX w g l)(j:Nat):w.frozen? ⟨g,j,none⟩=false:=by
 unfold NX at h;simp[World.frozen?,h]
theorem NX.set(h:NX w g l)(j:Nat)(c:UInt8):NX (w.setCell ⟨g,j,none⟩ (.int .u8 (c.toNat:Int))) g (l.set j c):=by
 unfold NX at h ⊢;simp only[World.setCell,Array.getElem?_modify,h];simp[tJ,List.map_set]
theorem NX.text{m:aK}(h:NX w g (m++l))(hk:m.length=k) :
  (convert 187 9 (.slice (some ⟨g,k,none⟩) l.length c)).run prog w=.ok (.string ⟨l.toArray⟩) w:=by
 refine run_convert_bytes_back (P:=prog) w 187 9 5 ⟨g,k,none⟩ c l underlying187 underlying5 underlying9 ?_;intro j hj;have ea:(Addr.add ⟨g,k,none⟩ j)=⟨g,k+j,none⟩:=by unfold Addr.add;split<;>simp_all
 rw[ea];refine h.cell ?_;rw[List.getElem?_append_right ab,show k+j-m.length=j from ab];exact List.getElem?_eq_getElem hj
def DZ(n j:Nat):aK:=List.replicate (65-j) 0++kt j n
theorem SG(n j:Nat)(h:j<=65):(DZ n j).length=65:=by unfold DZ;rw[aM,fb,nC];omega
theorem O'(n j:Nat)(h:j<65):DZ n (j+1)=(DZ n j).set (64-j) (Ck (n/16^j%16).toUInt8):=by
 unfold DZ;rw[<-AG j n,show 65-j=(65-(j+1))+1 from ab,List.replicate_succ'];rw[cK,List.set_append,ay (by rw[fb];omega)];rw[fb,show 64-j-(65-(j+1))=0 from ab];rfl
theorem abu(q:Nat)(hq:q<18446744073709551616):bits .and .u64 (q:Int) 15=((q%16:Nat):Int):=by
 have h:=bits_and_u64_nat q 15 hq ag;rw[show((15:Nat):Int)=15 from rfl]at h;rw[h]
 congr 1
 exact Nat.and_two_pow_sub_one_eq_mod q 4
def afl(n g:Nat)(w:World)(u i:Value)(wr:World):Prop:=∃j m:Nat,j<=7/\m+1+j=65/\u=.int .u64 ((n/16^j:Nat):Int)/\i=.int .i64 ((m:Int)+1)/\NX wr g (DZ n j)/\Fr aX w wr
theorem Pc(n:Nat)(w:World)(hn:n<4294967296)(h:oz w 9 .u8 Rf) :
  aE 244 #[.slice none 0 0,.int .u64 (n:Int),.int .i64 16,.bool false,.bool false] w fun e w' =>
   (∃j,j<8/\n<16^(j+1)/\e=.returned (.tuple #[.slice none 0 0,.string ⟨(kt (j+1) n).toArray⟩]))/\Fr aX w w':=by
 have ix:Fr aX w (w.alloc (.cells (tJ (List.replicate 65 0)).toArray 325)):=(ae aX w).alloc _;have HTZ:=O (abt _ (h.fr ix));have Xk:=O (show NX (w.alloc (.cells (tJ (List.replicate 65 0)).toArray 325)) w.heap.size (DZ n 0)from aC _ _);clear h;go_enter func244,ntmps244;go_wp2_with fail
 refine(SF _).mono ?_;rintro e w1⟨rfl,rfl⟩;go_wp2_with fail
 refine HTZ.o.mono ?_;rintro e w2⟨rfl,rfl⟩;go_wp2;go_loopw[1,13] (afl n w.heap.size w) (fun u _ _=>(intOf u).toNat)
 case atStart=>exact⟨0,64,ab,ab,aS,rfl,Xk.o,ix⟩
 case round =>
  obtain⟨j,m,hj,hm,rfl,rfl,hb,cR⟩:=hrel;have hq0:n/16^j<=n:=Nat.div_le_self _ _;have hsu:=O (O' n j ab);have BF:=O (show n/16^(j+1)=n/16^j/16 by rw[Nat.pow_succ,Nat.div_div_eq_div_mul]);have h7:=O (show 16<=n/16^j->j<7 from fun h=>by
   rcases fD j 7 with h1|h1
   ·exact h1
   ·obtain rfl:j=7:=ab;simp at h;omega)
  have afm:=O (show n/16^j<16->n<16^(j+1)from fun h=>by rw[Nat.pow_succ,Nat.mul_comm];exact(Nat.div_lt_iff_lt_mul (Nat.pow_pos ag)).1 h);have qy:=O (hb.set m (Ck (n/16^j%16).toUInt8));have Zs:=SG n j ab;have hcell:=hb.cell (List.getElem?_eq_getElem (show m<(DZ n j).length from ab));have aon:=hb.free m;generalize hq:n/16^j=q at *
  have h15:=abu q ab;have hr:q%16<16:=Nat.mod_lt _ ag;by_cases h16:16<=q
  ·have akW:(16:Int)<=(q:Int):=ab;go_wp2;rw[NW _ hr];exact⟨⟨j+1,m-1,by have:=h7.o h16;omega,by have:=h7.o h16;omega,by rw[BF.o];rfl,by congr 1;omega,by rw[hsu.o,show 64-j=m from ab];exact qy.o,cR.gI (p:=⟨w.heap.size,m,none⟩) (az _) _⟩,by simp[intOf];omega⟩
  ·have akW:¬(16:Int)<=(q:Int):=ab;have arn:(m:Int)<=65:=ab;have aoo:m<=65:=ab;have afn:q<16:=ab;have e65:65-m=j+1:=ab;have hx:=qy.o;rw[show q%16=q from ab,show(DZ n j).set m (Ck q.toUInt8)=List.replicate m 0++kt (j+1) n from by
    have h:=hsu.o;rw[show q%16=q from ab,show 64-j=m from ab]at h;rw[<-h];unfold DZ;rw[show 65-(j+1)=m from ab]]at hx
   have Ap:=hx.text (k:=m) (c:=j+1) aS;rw[nC]at Ap;clear hx hb qy;go_wp2;rw[NW _ afn,Ap];go_wp2;go_ret2;exact⟨⟨j,ab,afm.o afn,rfl⟩,cR.gI (p:=⟨w.heap.size,m,none⟩) (az _) _⟩
theorem SH(n:Nat)(w:World)(hn:n<4294967296)(h:oz w 9 .u8 Rf) :
  aE 161 #[.int .i64 (n:Int),.int .i64 16] w fun e w' =>
   (∃j,j<8/\n<16^(j+1)/\e=.returned (.string ⟨(kt (j+1) n).toArray⟩))/\Fr aX w w':=by
 have HF:=O (Pc n w hn h);clear h
 have h1:IntKind.u64.wrap (n:Int)=(n:Int):=by have e:IntKind.u64.wrap (n:Int)=(n:Int)%18446744073709551616:=by simp[IntKind.wrap,IntKind.signed,IntKind.bits]
                                              rw[e];omega
 have VL:aE 209 #[.int .i64 (n:Int),.int .i64 16] w fun e w' =>
   (∃j,j<8/\n<16^(j+1)/\e=.returned (.string ⟨(kt (j+1) n).toArray⟩))/\Fr aX w w':=by
  go_enter func209,ntmps209;go_wp2_with fail
  refine HF.o.mono ?_;rintro e w1⟨⟨j,hj,BD,rfl⟩,hf⟩;have HN:=O BD;clear BD;go_wp2;go_ret;exact⟨⟨j,hj,HN.o,rfl⟩,hf⟩
 go_enter func161,ntmps161;go_wp2_with fail
 refine VL.mono ?_;rintro e w1⟨⟨j,hj,BD,rfl⟩,hf⟩;have HN:=O BD;clear BD VL;go_wp2;go_ret;exact⟨⟨j,hj,HN.o,rfl⟩,hf⟩
theorem Jh(k:Nat):Lib.repeatL [48] k=List.replicate k 48:=by
 induction k with
 |zero=>rfl
 |succ k ih=>show([48]:aK)++Lib.repeatL [48] k=_;rw[ih,List.replicate_succ];rfl
theorem qO(n:Nat)(w:World)(hn:n<4294967296)(h:oz w 9 .u8 Rf) :
  aE 111 #[.int .i64 (n:Int)] w fun e w'=>e=.returned (.string ⟨(jr n).toArray⟩)/\Fr aX w w':=by
 have HF:=O (SH n w hn h);clear h;go_enter func111,ntmps111;go_wp2_with fail
 refine HF.o.mono ?_;rintro e w1⟨⟨j,hj,BD,rfl⟩,hf⟩;have HC:=O (show jr n=Lib.repeatL [48] (7-j)++kt (j+1) n by unfold jr;rw[Jh,Cm _ _ _ BD,show j+1+(7-j)=8 from ab]);have hl:=nC (j+1) n;generalize kt (j+1) n=x at *
 clear BD;have hmx:max (0:Int) (8-((j:Int)+1))=((7-j:Nat):Int):=ab;go_wp2_with fail
 refine(strings_Repeat ⟨#[48]⟩ (7-j) w1 ab (by show 1*(7-j)<=_;omega)).mono ?_;rintro e w2⟨rfl,hb⟩;have dF:=fe hb;have uM:(Lib.repeatL [48] (7-j)).length=7-j:=by rw[Jh];simp
 have HS:=O (show(⟨(Lib.repeatL [48] (7-j)).toArray⟩++⟨x.toArray⟩:ai)=⟨(jr n).toArray⟩from by
  apply Go.WideShapes.bytes_inj;rw[HC.o];simp[gF])
 generalize Lib.repeatL [48] (7-j)=z at *
 have Xb:¬9223372036854775807<z.length+x.length:=ab;go_wp2;go_ret;exact⟨by rw[<-HS.o];rfl,hf.trans dF⟩
theorem yN(b:Bool)(w:World):aE 230 #[.bool b] w fun e w'=>e=.returned (.int .i64 (B6 b))/\w=w':=by
 cases b
 ·go_enter func230,ntmps230;go_wp2;go_ret;exact⟨rfl,rfl⟩
 ·go_enter func230,ntmps230;go_wp2;go_ret;exact⟨rfl,rfl⟩
def gz.dX(o:gz):aaT:=⟨o.aD,o.host.data.toList,o.port⟩
def wK(o:gz):ai:=⟨(Er o.dX).toArray⟩
def N4(s:Bool):ai:=⟨(Zh s).toArray⟩
theorem LP(sec:Bool)(host:ai)(port:Int)(h:port=B6 sec):wK ⟨sec,host,port⟩=N4 sec++host:=by
 apply Go.WideShapes.bytes_inj;unfold wK Er gz.dX N4;simp[h]
theorem Py(sec:Bool)(host:ai)(port:Int)(h:¬port=B6 sec):wK ⟨sec,host,port⟩=(N4 sec++host)++(⟨#[58]⟩++⟨(Lib.itoa port).toArray⟩):=by
 apply Go.WideShapes.bytes_inj;unfold wK Er gz.dX N4;simp[h]
theorem Fr.grow(w:World)(k:Nat)(os:Array Obj):Fr aX w (Sort.grow (w.drewN k) os):=fe (Lib.below_grow w.heap.size w (az _) k os)
theorem Tb(o:gz)(w:World)(ht:wZ w)(h0: -9223372036854775808<=o.port)(h1:o.port<=9223372036854775807)(hs:o.host.size<100000) :
  aE 196 #[.agg o.cells.toArray] w fun e w'=>e=.returned (.string (wK o))/\Fr aX w w':=by
 obtain⟨sec,host,port⟩:=o;have h0: -9223372036854775808<=port:=h0;have h1:port<=9223372036854775807:=h1;have hs:host.size<100000:=hs;have als:=Lib.itoa_length_le port h0 h1;have hiz:(⟨(Lib.itoa port).toArray⟩:ai).size<=21:=by show(Lib.itoa port).toArray.size<=21;simpa using als
 unfold gz.cells;obtain⟨wb,jP⟩:∃wb,wb=w.alloc (.cells #[.bool sec,.string host,.int .i64 port] 24):=⟨_,rfl⟩;have kf:Fr aX w wb:=by rw[jP];exact(ae aX w).alloc _
 have l_:wb.heap[w.heap.size]?=some (.cells #[.bool sec,.string host,.int .i64 port] 24 (0,0)):=by rw[jP];exact aC _ _
 have c0:wb.cell? ⟨w.heap.size,0,none⟩=some (.bool sec):=by simp[World.cell?,l_]
 have c1:wb.cell? ⟨w.heap.size,1,none⟩=some (.string host):=by simp[World.cell?,l_]
 have c2:wb.cell? ⟨w.heap.size,2,none⟩=some (.int .i64 port):=by simp[World.cell?,l_]
 have AM:=O (show∀m,aE 231 #[.int .i64 port] (wb.drewN m) fun e w'=>e=.returned (.string ⟨(Lib.itoa port).toArray⟩)/\Fr aX w w' from fun m =>
  (strconv_Itoa port h0 h1 _ ((ht.fr kf).fr ((ae aX wb).drewN m))).mono fun e w' h=>by
   obtain⟨he,k,os,rfl⟩:=h;exact⟨he,(kf.drewN m).trans (Fr.grow _ k os)⟩)
 have qB:=O jP;clear jP l_;by_cases hp:port=B6 sec
 ·have HT:=O (LP sec host port hp);have Jr:(port !=B6 sec)=false:=by simpa using hp
  have lV:=O kf;cases sec
  ·clear hp;go_enter func196,ntmps196;go_wp2;rw[<-qB.o];go_quiet ((go_at_call 230;exact sT (yN false _)));go_wp2;go_ret;exact⟨by rw[HT.o];rfl,lV.o.drewN _⟩
  ·clear hp;go_enter func196,ntmps196;go_wp2;rw[<-qB.o];go_quiet ((go_at_call 230;exact sT (yN true _)));go_wp2;go_ret;exact⟨by rw[HT.o];rfl,lV.o.drewN _⟩
 ·have HT:=O (Py sec host port hp);have Jr:(port !=B6 sec)=true:=by simpa using hp
  have lV:=O kf;cases sec
  ·clear hp;go_enter func196,ntmps196;go_wp2;rw[<-qB.o];go_quiet ((go_at_call 230;exact sT (yN false _)));go_wp2_with fail
   refine(AM.o _).mono ?_;rintro e u⟨rfl,zA⟩;go_wp2;go_ret;exact⟨by rw[HT.o];rfl,zA⟩
  ·clear hp;go_enter func196,ntmps196;go_wp2;rw[<-qB.o];go_quiet ((go_at_call 230;exact sT (yN true _)));go_wp2_with fail
   refine(AM.o _).mono ?_;rintro e u⟨rfl,zA⟩;go_wp2;go_ret;exact⟨by rw[HT.o];rfl,zA⟩
theorem xJ:(prog.info? 133).map (fun i=>(i.zero,i.size,i.bytes))=some (some (.agg fc),16,216):=af
theorem xK:fc.all (·.oneCell')=true:=cZ
def PC(base:Nat)(w:World)(gs:List (aU bG))(v:Value)(w':World):Prop:=g_ base w' v gs/\∀k,v.ownBlock=some k->w.heap.size<=k
def LS(base:Nat)(w:World)(gs:List (aU bG))(e:Ending)(w':World):Prop :=
 ∃v,e=.returned v/\PC base w gs v w'/\Fr aX w w'
def afL(base:Nat)(w:World)(gs:List (aU bG))(v i:Value)(wr:World):Prop :=
 ∃(k:Nat) (rs:List (aU Value)),k<=gs.length/\i=.int .i64 k/\OwnRows w.heap.size 133 16 wr v (rs.map aU.cells)/\ld (aU.Reads (df base wr)) rs (gs.take k)/\Fr aX w wr
theorem LU(base:Nat)(w:World)(b:Nat)(gv wv:Value)(gs:List (aU bG))(ws:List (bL bG))(h:dC base w b gv wv gs ws)(LV:gs.length<68719476736) :
  aE 56 #[.pointer (some ⟨b,0,none⟩)] w (LS base w gs):=by
 have h0:=h.c0;obtain⟨av,cv,hv⟩:=h.bZ.form;subst hv;have tK:=h.lt;have im:base<=w.heap.size:=by have:=h.low;omega
 go_enter func56,ntmps56;go_wp2;clear h0;go_loopw[3,11] (afL base w gs) (fun _ i _=>gs.length-(intOf i).toNat)
 case atStart=>exact⟨0,[],aW _,rfl,dp _ _ _ _,.nil,ae _ _⟩
 case round =>
  obtain⟨k,rs,hk,rfl,cQ,vI,cR⟩:=hrel;by_cases fE:k<gs.length
  ·obtain⟨bk,c,dw,se,r,ec,hr,hcell⟩:=(h.dx cR).bZ.at fE;cases dw;unfold maxLen at se;obtain⟨x,hx⟩:∃x,x=r.cells:=⟨_,rfl⟩;have lI:x.length=16:=by rw[hx];rfl
   have iQ:=fun W=>run_storeCells_new (P:=prog) W 133 #[.bool false,.string ⟨#[]⟩,.int .i64 0,.bool false,.string ⟨#[]⟩,.string ⟨#[]⟩,.int .i64 0,.string ⟨#[]⟩,.string ⟨#[]⟩,.string ⟨#[]⟩,.bool false,.string ⟨#[]⟩,.bool false,.slice none 0 0,.int .i64 0,.slice none 0 0] x (by rw[lI];rfl) (by rw[hx];exact ec);rw[<-hx]at hcell;have HX:=O hx
   have ET:(prog.info? 133).map (·.size)=some x.toArray.size:=by rw[bd,lI];kernel_rfl
   have KX:=O ET;clear hx ET;obtain⟨av,cv,Tg⟩:=cQ.form;subst Tg;rw[aj,vI.len,aQ,dJ hk]at cQ ⊢
   go_wp2_with (first|((with_reducible refine dt 14 ?_);refine bu rfl 133 (.tmp 13) rfl bk (k*16) rfl x _ hcell underlying133 rfl (by have h:=KX.o;rw[bd]at h;exact h) ?_)|((with_reducible refine dt 16 ?_);refine aJ rfl 133 (.tmp 5) rfl wr.heap.size rfl _ x.toArray (0,0) _ (aC wr _) underlying133 rfl KX.o ?_)|fail)
   have ix:Fr aX wr (wr.alloc (.cells x.toArray 133)):=(ae aX wr).alloc _;have pN:=hr.mono (fun _ _ h=>h.dx ix);have fy:=cQ.alloc (.cells x.toArray 133);have CN:=vI.mono (fun _ _ h=>h.mono (fun _ _ h=>h.dx ix));have ue:=cR.trans ix;have jP:w.heap.size<=wr.heap.size:=cR.size;have fF:=O (uf base r gs[k] _ bH pN);rw[<-HX.o]at fF;clear hr pN ix ec iQ hcell cQ vI cR
   generalize wr.alloc (.cells x.toArray 133)=W2 at *
   refine fF.o.mono ?_;rintro e w3 LW;obtain⟨r3,rfl,rf,qq,iG⟩:=LW;have fo:=fy.fr iG (fun _ _ h=>h);have CO:=CN.mono (fun _ _ h=>h.mono (fun _ _ h=>h.dx iG));have il:=ue.trans iG;clear fF fy CN ue iG;obtain⟨y,hy⟩:∃y,y=r3.cells:=⟨_,rfl⟩;have Ew:y.length=16:=by rw[hy];rfl
   rw[<-hy]at qq ⊢;have HY:=O hy;clear hy;have Gm:=O fo;clear fo;have EW:=vw y #[.bool false,.string ⟨#[]⟩,.int .i64 0,.bool false,.string ⟨#[]⟩,.string ⟨#[]⟩,.int .i64 0,.string ⟨#[]⟩,.string ⟨#[]⟩,.string ⟨#[]⟩,.bool false,.string ⟨#[]⟩,.bool false,.slice none 0 0,.int .i64 0,.slice none 0 0] (by rw[Ew];rfl);have hbw:w.heap.size<=w3.heap.size:=il.size;have uM:=CO.len;rw[aQ,dJ hk]at uM
   have HRL:=O uM;have LN:(rs.map aU.cells).length<68719476736:=by rw[aj,uM];omega
   clear uM;go_wp2_with (at_builtin;refine nA rfl _ _ 85 133 rfl 16 216 (.agg fc) underlying85 xJ rfl ag ag w.heap.size (.slice av k cv) (rs.map aU.cells) rfl (Gm.o.alloc _) w3.heap.size 1 y rfl Ew qq (fun i u hi=>by rw[World.cell?_alloc_mark];simpa using hi) LN bH ?_;intro v' w4 eV Ba)
   have DM:=Fr.NF _ Ba;have mJ:=Gm.o.off (base:=base) im ag;rw[HY.o]at eV;refine⟨⟨k+1,rs++[r3],ab,bh,by rw[bI];exact eV,?_,il.step DM (fun j hj hS=>by have h2:=Gm.o.block j hS;omega)⟩,by simp[intOf];omega⟩;rw[dU (List.getElem?_eq_getElem fE)];exact(CO.mono (fun _ _ h=>h.mono (fun _ _ h=>h.fr DM mJ))).app (.cons (rf.mono (fun _ _ h=>h.fr DM mJ)) .nil)
  ·rw[aG ab]at vI;obtain⟨av,cv,Tg⟩:=cQ.form;subst Tg;go_wp2;go_ret;exact⟨_,rfl,⟨⟨rs,cQ.up im,vI⟩,cQ.block⟩,cR⟩
theorem Js{α:Type}(f:α->Int):∀(l:List α) (i:Nat) (acc:Int×Int),(∃k,k<l.length/\(oB f l i acc).2=((i+k:Nat):Int))\/(oB f l i acc).2=acc.2
 |[],_,_=>Or.inr rfl
 |g :: l,i,acc=>by
  rw[oB];rcases Js f l (i+1) (if 0<=f g/\acc.1<=f g then(f g,(i:Int))else acc)with ⟨k,hk,h⟩|h
  ·exact Or.inl ⟨k+1,bH,by rw[h];congr 1;omega⟩
  ·rw[h];by_cases hc:0<=f g/\acc.1<=f g
   ·rw[aB hc];exact Or.inl ⟨0,aS,aS⟩
   ·rw[ay hc];exact Or.inr rfl
theorem Th(gs:List (aU bG))(o:gz)(proxy:Bool)(path:ai):(∃k,k<gs.length/\tz gs o proxy path=(k:Int))\/tz gs o proxy path= -1:=by
 rcases Js (px o proxy path) gs 0 (-1, -1)with ⟨k,hk,h⟩|h
 ·exact Or.inl ⟨k,hk,by unfold tz;rw[h,bw]⟩
 ·exact Or.inr h
def tA(base:Nat)(w:World)(m:Option (aU bG))(e:Ending)(w':World):Prop :=
 Fr aX w w'/\match m with
 |none=>e=.returned (.tuple #[.agg fc,.bool false])
 |some g=>∃r:aU Value,e=.returned (.tuple #[.agg r.cells.toArray,.bool true])/\r.Reads (df base w') g/\∀u∈r.cells,u.oneCell'=true
theorem Vu(name value:ai)(w:World)(hn:name.size<=140737488351232)(hv:value.size<=140737488351232) :
  aE 67 #[.agg #[.string name,.string value]] w fun e w'=>e=.returned (.bool (decide ((300:Int)<(name.size:Int)+(value.size:Int))))/\Fr aX w w':=by
 have kf:Fr aX w (w.alloc (.cells #[.string name,.string value] 142)):=(ae aX w).alloc _;go_enter func67,ntmps67;go_wp2;go_ret;exact⟨rfl,kf⟩
structure ep where
 cG:gz
 o:gz
 path:ai
 query:ai
 fq:Bool
 method:ai
 head:ai
 pC:Int
def ep.cells(p:ep):a_:=[.bool p.cG.aD,.string p.cG.host,.int .i64 p.cG.port,.bool p.o.aD,.string p.o.host,.int .i64 p.o.port,.string p.path,.string p.query,.bool p.fq,.string p.method,.string p.head,.int .i64 p.pC]
def ep.kM(p q:ep):Bool:=p.cG.kM q.cG&&(p.o.kM q.o&&(p.path.toList==q.path.toList&&(p.query.toList==q.query.toList&&(p.fq==q.fq&&(p.method.toList==q.method.toList&&(p.head.toList==q.head.toList&&p.pC==q.pC))))))
theorem ep.yl(p q:ep):p.kM q=true↔p=q:=by
 obtain⟨a,d,g,i,j,k,l,m⟩:=p;obtain⟨a',d',g',i',j',k',l',m'⟩:=q;simp only[ep.kM,cF,dP,ep.mk.injEq,toList_inj,gz.yl]
def star:aK:=[42]
def Zm:aK:=[97,117,116,104,111,114,105,122,97,116,105,111,110]
def ep.lets(m:ai)(fq:Bool)(p:ep):Bool:=p.method.toList==m.toList||(p.method.toList==star&&!fq)
def ep.mL(h:ai)(fq:Bool)(p:ep):Bool:=p.head.toList==h.toList||(p.head.toList==star&&(!fq&&h.toList !=Zm))
def WA(m:ai)(fq:Bool)(ef:List ai)(ps:List ep):Bool :=
 (qA m||ps.any (ep.lets m fq))&&ef.all fun h=>ps.any (ep.mL h fq)
structure qE where
 cG:gz
 o:gz
 path:ai
 query:ai
 method:ai
 ef:List gT
 fq:Bool
def qE.mO(r:qE)(ps:List ep):Bool:=WA (jB r.method) r.fq (xv r.ef) ps
def qE.needs(r:qE):Bool:=!r.cG.kM r.o&&!r.mO []
def ep.like(p q:ep):Bool:=({p with pC:=q.pC}:ep).kM q
def ep.alive(now:Int)(p:ep):Bool:=decide (now<p.pC)
def DW(b:List ep)(p:ep):List ep:=(b.filter fun q=>!p.like q)++[p]
def tU(b l:List ep)(now:Int):List ep :=
 let c:=(l.foldl DW b).filter (ep.alive now)
 c.drop (c.length-32)
def qE.Sb(r:qE)(now:Int)(p:ep):Bool:=p.alive now&&(p.cG.kM r.cG&&((p.o.kM r.o&&(p.path.toList==r.path.toList&&p.query.toList==r.query.toList))&&(p.fq||!r.fq)))
def iP(b:List ep)(r:qE)(now:Int):List ep:=b.filter (r.Sb now)
def mh(b:List ep)(r:qE)(now:Int):Bool:=!r.needs||r.mO (iP b r now)
theorem IJ(b l:List ep)(now:Int):(tU b l now).length<=32:=by
 unfold tU;simp only[bJ];omega
theorem Sc(b:List ep)(p:ep):(DW b p).length<=b.length+1:=by
 unfold DW;have:=bR (fun q=>!p.like q) b;simp;omega
theorem IK:∀(l:List ep) (b:List ep),(l.foldl DW b).length<=b.length+l.length
 |[],b=>aS
 |p :: l,b=>by
  have h1:=IK l (DW b p);have h2:=Sc b p;simp only[List.foldl_cons,List.length_cons];omega
def NC:Bs:=[117,115,101,114,110,97,109,101]
def WG:Bs:=[117,114,105]
def ND:Bs:=[114,101,115,112,111,110,115,101]
def nNc:Bs:=[110,99]
def Bw:Bs:=[99,110,111,110,99,101]
def aa':Bs:=[68,105,103,101,115,116]
def oW(scheme:Int)(cy:Bool):Bs:=(if scheme=3 then FR else xr)++(if cy then yo else [])
structure iK where
 scheme:Int
 aO:Bs
 bC:Bs
 cj:Bs
 cy:Bool
 eZ:Bs
 user:Bs
 uri:Bs
 OU:Bs
 bz:Bs
 count:Bs
def qP(n v:Bs):jn×Bs:=((n,v),fK v)
def pP(n v:Bs):jn×Bs:=((n,v),v)
def iK.head(d:iK):List (jn×Bs):=[qP NC d.user,qP vh d.aO,qP vn d.bC,qP WG d.uri,qP ND d.OU,pP yn (oW d.scheme d.cy)]
def iK.two(d:iK):List (jn×Bs):=if d.eZ.isEmpty then []else [pP Iu d.eZ,pP nNc d.count]
def iK.cn(d:iK):List (jn×Bs):=if !d.eZ.isEmpty||d.cy then [qP Bw d.bz]else []
def iK.op(d:iK):List (jn×Bs):=if d.cj.isEmpty then []else [qP lO d.cj]
def iK.yx(d:iK):List (jn×Bs):=d.head++(d.two++(d.cn++d.op))
def iK.fair(d:iK):Bool:=nJ d.user&&(nJ d.aO&&(nJ d.bC&&(nJ d.uri&&(nJ d.OU&&((!(!d.eZ.isEmpty||d.cy)||nJ d.bz)&&(d.cj.isEmpty||nJ d.cj))))))
def iK.text(d:iK):Bs:=aa'++32 :: wS d.yx
theorem EE(s cs:ai)(w:World)(hcs:cs.size<4294967281)(Lh:∀b∈cs.data.toList,b.toNat<128) :
  aE 213 #[.string s,.string cs] w fun e w'=>e=.returned (.string ⟨(s.data.toList.dropWhile (cs.data.toList.contains ·)).toArray⟩)/\Fr aX w w':=by
 refine(Any.strings_TrimLeft_laid Wf af s cs w hcs (fun j b hj=>Lh b (cL hj))).mono ?_;rintro e w'⟨he,hb⟩;exact⟨he,fe hb⟩
theorem Bz{x:Int}(h: -9223372036854775808<=x)(h2:x<9223372036854775808):IntKind.i64.wrap x=x:=by
 simp[IntKind.wrap,IntKind.signed,IntKind.bits];omega
def abb:ai:=⟨RS.toArray⟩
theorem OW:∀b∈abb.data.toList,b.toNat<128:=cZ
def F9(s:ai)(i:Nat):Nat:=(lM (s.data.toList.drop i)).length
def Q_(s:ai)(i:Nat):Nat:=(nu (s.data.toList.drop i)).length
theorem aeU(s:ai)(h:i<=s.size):i+F9 s i+Q_ s i<=s.size:=by
 have h1:=pn DT (s.data.toList.drop i);have h2:=pn kM ((s.data.toList.drop i).dropWhile DT);unfold F9 Q_ lM nu;simp at h1;omega
theorem drop_take{p:UInt8->Bool}(l:Bs)(i:Nat):l.drop (i+((l.drop i).takeWhile p).length)=(l.drop i).dropWhile p:=by
 rw[<-ey, <-og]
theorem yB(s:ai)(i:Nat):s.data.toList.drop (i+F9 s i)=(s.data.toList.drop i).dropWhile DT:=drop_take _ _
theorem Ch(s:ai)(i:Nat):s.data.toList.drop (i+F9 s i+Q_ s i)=rR (s.data.toList.drop i):=by
 unfold Q_ nu rR;rw[<-yB];exact drop_take _ _
theorem yC(s:ai)(i:Nat):(s.extract i s.size).data.toList=s.data.toList.drop i:=by
 rw[Lib.extract_data,aG aS]
theorem WJ(s:ai)(i:Nat):s.extract i (i+F9 s i+Q_ s i)=⟨(lM (s.data.toList.drop i)++nu (s.data.toList.drop i)).toArray⟩:=by
 apply Go.WideShapes.bytes_inj;rw[Lib.extract_data];show _=lM (s.data.toList.drop i)++nu (s.data.toList.drop i);have e1:lM (s.data.toList.drop i)++(nu (s.data.toList.drop i)++rR (s.data.toList.drop i))=s.data.toList.drop i:=by
  unfold lM nu rR;rw[List.takeWhile_append_dropWhile,List.takeWhile_append_dropWhile]
 have e2:i+F9 s i+Q_ s i-i=(lM (s.data.toList.drop i)++nu (s.data.toList.drop i)).length:=by
  unfold F9 Q_;rw[aM];omega
 have key:∀(A B Z D:Bs),A++(B++Z)=D->D.take (A++B).length=A++B:=by
  intro A B Z D h;subst h;rw[<-cK,List.take_left' rfl]
 rw[e2];exact key _ _ _ _ e1
def mi(c i:Nat)(s:ai)(w:World)(e:Ending)(w':World):Prop :=
 Fr (one c) w w'/\match singleR (s.data.toList.drop i)with
  |some q=>e=.returned (.tuple #[.string ⟨q.1.toArray⟩,.bool true])/\∃j,j<=s.size/\dm w' c s j/\s.data.toList.drop j=q.2
  |none=>e=.returned (.tuple #[.string ⟨#[]⟩,.bool false])/\dm w' c s i
theorem mi.hit{q:Bs×Bs}(h:singleR (s.data.toList.drop i)=some q)(hf:Fr (one c) w w')(hj:j<=s.size)(hc:dm w' c s j)(hd:s.data.toList.drop j=q.2) :
  mi c i s w (.returned (.tuple #[.string ⟨q.1.toArray⟩,.bool true])) w':=by
 refine⟨hf,?_⟩;rw[h];exact⟨rfl,j,hj,hc,hd⟩
theorem mi.no(h:singleR (s.data.toList.drop i)=none)(hf:Fr (one c) w w')(hc:dm w' c s i) :
  mi c i s w (.returned (.tuple #[.string ⟨#[]⟩,.bool false])) w':=by
 refine⟨hf,?_⟩;rw[h];exact⟨rfl,hc⟩
theorem Fr.mQ(h:Fr aX w w'):Fr S w w':=h.mono (fun _ _ h=>absurd h id)
theorem Lu(b c i:Nat)(s:ai)(v:Value)(w:World)(hr:iw w b c s v)(h:dm w c s i)(hs:s.size<100000)(hi:i<=s.size) :
  aE 170 #[.pointer (some ⟨b,0,none⟩)] w (mi c i s w):=by
 have hm:s.size<=maxLen:=ft;have q0:=hr.cell0;have q1:=hr.gU;have hle:=aeU s hi;have HD1:=O (yB s i);have HD2:=O (Ch s i);have HT:=O (WJ s i);have HR:=O (show singleR (s.data.toList.drop i)=if decide (0<F9 s i)&&nK (s.data.toList.drop (i+F9 s i+Q_ s i))then some (lM (s.data.toList.drop i)++nu (s.data.toList.drop i),eU (s.data.toList.drop (i+F9 s i+Q_ s i)))else none by
  unfold singleR;rw[Ch];have:(!(lM (s.data.toList.drop i)).isEmpty)=decide (0<F9 s i):=by
   unfold F9;cases lM (s.data.toList.drop i)<;>simp
  rw[this])
 have T1:=O (show∀U,aE 213 #[.string (s.extract i s.size),.string abb] U fun e w'=>e=.returned (.string (s.extract (i+F9 s i) s.size))/\Fr aX U w' from fun U=>by
  have e1:s.extract (i+F9 s i) s.size=⟨((s.extract i s.size).data.toList.dropWhile (abb.data.toList.contains ·)).toArray⟩:=by
   apply Go.WideShapes.bytes_inj;rw[yC,yC,yB];rfl
  rw[e1];exact EE _ _ U ag OW)
 have T2:=O (show∀U,aE 213 #[.string (s.extract (i+F9 s i) s.size),.string ⟨#[61]⟩] U fun e w'=>e=.returned (.string (s.extract (i+F9 s i+Q_ s i) s.size))/\Fr aX U w' from fun U=>by
  have e1:s.extract (i+F9 s i+Q_ s i) s.size=⟨((s.extract (i+F9 s i) s.size).data.toList.dropWhile ((⟨#[61]⟩:ai).data.toList.contains ·)).toArray⟩:=by
   apply Go.WideShapes.bytes_inj;rw[yC,yC,yB,Ch];rfl
  rw[e1];exact EE _ _ U ag ag)
 generalize hN:F9 s i=N at *
 generalize hM:Q_ s i=M at *
 clear hN hM;generalize lM (s.data.toList.drop i)++nu (s.data.toList.drop i)=TX at *
 have hJ1:i<=i+N:=ab;have hJ2:i+N<=i+N+M:=ab;have hJN:i+N-i=N:=ab;have hLM:i+N+M-(i+N)=M:=ab;generalize hL:i+N+M=L at *
 generalize hJ:i+N=J at *
 have E1:=O hJ;have E2:=O hL;clear hL hJ;have HNM:=O (And.intro hJN hLM);clear hJN hLM;have kP:(s.extract i s.size).size=s.size-i:=by rw[fZ];omega
 have kR:(s.extract J s.size).size=s.size-J:=by rw[fZ];omega
 have Sf:(s.extract L s.size).size=s.size-L:=by rw[fZ];omega
 have W1:=O (show IntKind.i64.wrap (((s.size-i:Nat):Int)-((s.size-J:Nat):Int))=(N:Int)by
  have e:=HNM.o.1;rw[show(((s.size-i:Nat):Int)-((s.size-J:Nat):Int))=(N:Int)from ab];exact Bz ab ab)
 have W2:=O (show IntKind.i64.wrap (((s.size-J:Nat):Int)-((s.size-L:Nat):Int))=(M:Int)by
  have e:=HNM.o.2;rw[show(((s.size-J:Nat):Int)-((s.size-L:Nat):Int))=(M:Int)from ab];exact Bz ab ab)
 have W3:=O (show IntKind.i64.wrap ((i:Int)+(N:Int))=(J:Int)by
  have e:=HNM.o.1;rw[show((i:Int)+(N:Int))=(J:Int)from ab];exact Bz ab ab)
 have W4:=O (show IntKind.i64.wrap ((J:Int)+(M:Int))=(L:Int)by
  have e:=HNM.o.2;rw[show((J:Int)+(M:Int))=(L:Int)from ab];exact Bz ab ab)
 have NG:=O (show∀U,Fr aX w U->iw U b c s v/\dm U c s i from fun U hU=>⟨hr.fr hU id,h.fr hU id⟩);go_enter func170,ntmps170;go_wp2_with fail
 refine(zH c s i w h).mono ?_;rintro e w0⟨rfl,rfl⟩;have b1:(0:Int)<=(i:Int):=ab;have b2:(i:Int)<=(s.size:Int):=ab;go_wp2_with fail
 go_region_held3 (fun U=>U.cell? ⟨b,1,none⟩=some (.string s)) ((refine(NG.o _ ?_).1.gU;repeat(first|exact ae _ _|apply bq|apply aA|refine bF ?_ jR))) ((go_at_call 213;refine(T1.o _).mono ?_;rintro e v1 ⟨rfl,Hd⟩))
 rw[W1.o];obtain⟨Bx,oP⟩:=NG.o v1 (by repeat(first|exact ae _ _|apply bq|apply aA|apply dE|refine bF ?_ jR));have lA:=O (show Fr aX w v1 from(by repeat(first|exact ae _ _|apply bq|apply aA|apply dE|refine bF ?_ jR)));clear Hd;have q1:=Bx.gU;have b3:(0:Int)<=(J:Int):=ab;have b4:(J:Int)<=(s.size:Int):=ab;have w3:=W3.o;go_wp2_with fail
 go_region_held3 (fun U=>U.cell? ⟨b,1,none⟩=some (.string s)) ((refine(NG.o _ ?_).1.gU;repeat(first|exact ae _ _|exact lA.o|apply bq|apply aA|refine bF ?_ jR))) ((go_at_call 213;refine(T2.o _).mono ?_;rintro e v2 ⟨rfl,hv2⟩))
 rw[W2.o];obtain⟨pN,rI⟩:=NG.o v2 (by repeat(first|exact ae _ _|exact lA.o|apply bq|apply aA|apply dE|refine bF ?_ jR));have fR:=O (show Fr aX w v2 from(by repeat(first|exact ae _ _|exact lA.o|apply bq|apply aA|apply dE|refine bF ?_ jR)));clear hv2 q1 Bx oP;have q0:=pN.cell0;have q1:=pN.gU;have w4:=W4.o;go_wp2_with fail
 refine(xp c s i L v2 rI hm).mono ?_;rintro e v3⟨rfl,tO,iG⟩;rw[tW hle]at tO;have rf:=pN.one rI iG;have il:=O (fR.o.mQ.trans iG);have q0:=rf.cell0;have q1:=rf.gU;by_cases NH:0<N
 ·have n0:(0:Int)<(N:Int):=ab;rw[bD NH,Bool.true_and]at HR;go_wp2_with fail
  refine(Cg b c L s v v3 rf tO hm hle).mono ?_;rintro e v4⟨rfl,tL,kH⟩;have u0:=rf.one tO kH;have q0:=u0.cell0;have q1:=u0.gU;have BA:=O (ou s L);have Zs:=xA (s:=s) hle;cases ho:nK (s.data.toList.drop L)
  ·rw[ho]at HR;go_wp2_with fail
   refine(xp c s _ i v4 tL hm).mono ?_;rintro e v5⟨rfl,tM,lB⟩;rw[tW hi]at tM;go_wp2;go_ret2;exact mi.no (by rw[HR.o];rfl) ((il.o.trans kH).trans lB) tM
  ·rw[ho]at HR;have b5:(i:Int)<=(L:Int):=ab;have b6:(L:Int)<=(s.size:Int):=ab;have b7:(0:Int)<=(L:Int):=ab;go_wp2;go_ret2;rw[HT.o];exact mi.hit (q:=(TX,eU (s.data.toList.drop L))) (by rw[HR.o];rfl) (il.o.trans kH) Zs tL BA.o
 ·have n0:¬(0:Int)<(N:Int):=ab;rw[bf NH,kl]at HR;go_wp2_with fail
  refine(xp c s _ i v3 tO hm).mono ?_;rintro e v5⟨rfl,tM,lB⟩;rw[tW hi]at tM;go_wp2;go_ret2;exact mi.no (by rw[HR.o];rfl) (il.o.trans lB) tM
