/- Lemmas for the law's walk. -/
import Derived.Test.YtnckmcnffadjoaaGreatDoorPk7
import Derived.Lib.ItoaLen
set_option maxRecDepth 100000
set_option maxHeartbeats 16000000
set_option linter.unusedSimpArgs false
namespace Go.Proofs.YtnckmcnffadjoaaGreatDoor
open Go.Proofs.Tryz
open Go.RowKit Go.Sort
variable {k base n i g j c:Nat} {w w':World} {v u:Value} {ss:List aj} {r z:Bs} {ps:List jF} {p:jF} {S:dF} {l:aH} {s:aj}
abbrev ig:=aj×aj
def ig.cells(p:ig):aZ:=[.string p.1,.string p.2]
def oX(w:World)(v:Value)(ps:List ig):Prop:=dZ 2 w v (ps.map ig.cells)
def tK(s:aj):aj:=⟨(nD s.data.toList).toArray⟩
def wE(ps:List ig):List aj:=(ps.filter fun p=>!mo p.1 p.2).map fun p=>tK p.1
def JY(ps:List ig):List aj:=(ps.filter fun p=>mo p.1 p.2).map fun p=>tK p.1
def nB(ps:List ig):Nat:=((ps.filter fun p=>mo p.1 p.2).map fun p=>p.2.size).sum
def IA(ps:List ig):List aj:=wE ps++(if 1024<nB ps then JY ps else [])
def adw(ps:List ig):List (aH):=Lib.compact (uM ((IA ps).map fun s=>s.data.toList))
def yy(ps:List ig):List aj:=(adw ps).map fun l=>⟨l.toArray⟩
theorem IB(ps:List ig)(p:ig)(h:mo p.1 p.2=false):wE (ps++[p])=wE ps++[tK p.1]/\JY (ps++[p])=JY ps/\nB (ps++[p])=nB ps:=by
 unfold wE JY nB;simp[cG,h]
theorem FG(ps:List ig)(p:ig)(h:mo p.1 p.2=true):wE (ps++[p])=wE ps/\JY (ps++[p])=JY ps++[tK p.1]/\nB (ps++[p])=nB ps+p.2.size:=by
 unfold wE JY nB;simp[cG,h]
theorem Zd(ps:List ig):(wE ps).length<=ps.length:=by unfold wE;rw[ai];exact bW _ _
theorem adx(ps:List ig):(JY ps).length<=ps.length:=by unfold JY;rw[ai];exact bW _ _
theorem KQ{a b:aj}(h:mo a b=true):b.size<=128:=by
 unfold mo at h;split at h
 ·cases h
 ·omega
theorem abU:∀ps:List ig,nB ps<=128*ps.length
 |[]=>by simp[nB]
 |p :: ps=>by
  have ih:=abU ps;unfold nB at ih ⊢;rw[List.filter_cons];split
  ·rename_i h;have:=KQ h;simp only[cF,List.sum_cons,List.length_cons];omega
  ·simp only[List.length_cons];omega
theorem Ri{α:Type}{l:List α}{x:α}(h:l[k]?=some x):l.take (k+1)=l.take k++[x]:=by
 rw[cj,h];rfl
def wF(u v:Value):Prop:=∀k,u.ownBlock=some k->v.ownBlock≠some k
def ahI(ps:List ig)(w:World)(out plain n i:Value)(wr:World):Prop :=
 ∃k:Nat,k<=ps.length/\i=.int .i64 k/\n=.int .i64 (nB (ps.take k))/\Strs w.heap.size wr out (wE (ps.take k))/\Strs w.heap.size wr plain (JY (ps.take k))/\wF out plain/\Fr aS w wr
theorem Strs.lt(h:Strs base w v ss):∀k,v.ownBlock=some k->base<=k/\k<w.heap.size:=World.ownsRow.lt h
theorem Strs.kept{row:Option Nat}(h:Strs base w v ss)(hg:w.grownBy w' row)(hne:∀k,row=some k->v.ownBlock≠some k):Strs base w' v ss:=by
 refine World.ownsRow.kept h hg ?_;cases hv:v.ownBlock with
 |none=>exact Or.inl rfl
 |some k=>exact Or.inr fun e=>hne k e.symm hv
theorem wF.sep{v2:Value}(h:wF u v)(hs:Sep w v v2)(hu:Strs base w u ss):wF u v2:=by
 intro k hk e;rcases hs with hs|hs
 ·rw[hs]at e;exact h k hk e
 ·have h1:=hs k e;have h2:=(hu.lt k hk).2;omega
theorem wF.symm(h:wF u v):wF v u:=fun k hv hu=>h k hu hv
theorem UF(ss:List aj):ss.map Value.string=(ss.map fun s=>s.data.toList).map encStr:=by
 rw[iv];rfl
def UG(ls:List (aH)):List aj:=ls.map fun l=>⟨l.toArray⟩
theorem IC(ls:List (aH)):(UG ls).map Value.string=ls.map encStr:=by unfold UG;rw[iv];rfl
theorem Gu(base:Nat)(v:Value)(ss:List aj)(w:World)(h:Strs base w v ss)(hl:ss.length<1000000) :
  aB 182 #[v] w fun e w'=>e=.returned (.tuple #[])/\Strs base w' v (UG (uM (ss.map fun s=>s.data.toList)))/\w.grownBy w' v.ownBlock:=by
 have h2:w.ownsRow base 9 1 v (ss.map fun s=>s.data.toList).length ((ss.map fun s=>s.data.toList).map encStr):=by
  rw[<-UF,ai];exact h
 refine(UD base v _ w h2 (by rw[ai];exact hl)).mono ?_;rintro e w'⟨he,ho,hg⟩;refine⟨he,?_,hg⟩;unfold Strs;rw[IC,show(UG (uM (ss.map fun s=>s.data.toList))).length=(ss.map fun s=>s.data.toList).length from by unfold UG uM;simp];exact ho
theorem zF(base:Nat)(v:Value)(ls:List (aH))(w:World)(h:Strs base w v (UG ls))(hl:ls.length<1000000) :
  aB 183 #[v] w fun e w'=>∃u,e=.returned u/\Strs base w' u (UG (Lib.compact ls))/\w.grownBy w' v.ownBlock:=by
 have e1:(UG ls).length=ls.length:=by unfold UG;simp
 have h2:w.ownsRow base 9 1 v ls.length (ls.map encStr):=by
  rw[<-IC, <-e1];exact h
 refine(KM base v ls w h2 hl).mono ?_;rintro e w'⟨u,he,ho,hg⟩;refine⟨u,he,?_,hg⟩;unfold Strs;rw[IC,show(UG (Lib.compact ls)).length=(Lib.compact ls).length from by unfold UG;simp];exact ho
theorem Gv(ps:List ig)(v:Value)(w:World)(h:oX w v ps)(hl:ps.length<100000)(hz:∀p∈ps,p.1.size<100000/\p.2.size<100000) :
  aB 122 #[v] w fun e w'=>∃u,e=.returned u/\Strs w.heap.size w' u (yy ps)/\Fr aS w w':=by
 obtain⟨av,cv,hv⟩:=h.form;rw[ai]at hv;have HZ:=O hz;clear hz;subst hv;go_enter func122,ntmps122;go_wp2;go_loopw[3,4,5,11] (ahI ps w) (fun _ _ _ i _=>ps.length-(intOf i).toNat)
 case atStart=>exact⟨0,aL _,rfl,rfl,ld _ _,ld _ _,fun k e=>by simp[Value.ownBlock]at e,ae _ _⟩
 case round =>
  obtain⟨k,hk,rfl,rfl,ho,hp,Ze,cP⟩:=hrel;obtain⟨ao,co,Ng⟩:=ho.form;obtain⟨ap,cp,hpe⟩:=hp.form;have hn:=abU (ps.take k);rw[aJ]at hn;have TI:=Zd (ps.take k);have Fp:=adx (ps.take k);rw[aJ]at TI Fp;by_cases fe:k<ps.length
  ·have pE:(k:Int)<(ps.length:Int):=ab;have dS:=O (List.getElem?_eq_getElem fe);have xS:=HZ.o _ (bO fe);generalize ps[k]=p at dS xS;obtain⟨nm,vl⟩:=p;obtain⟨ll,lF⟩:=xS;have Rj:=O (Ri dS.o);have ml:dZ 2 wr (.slice av ps.length cv) (ps.map ig.cells):=bh h cP;rcases ml.2 with ⟨_,_,_,e,_⟩|⟨bk,of,c,dk,h1,h2,h3,h4⟩
   ·have:ps.length=0:=by have:=ar List.length e;simpa using this
    omega
   rw[ai]at dk h1;cases dk;unfold maxLen at h2;have hcell:=h4 k (ig.cells (nm,vl)) (by rw[List.getElem?_map,dS.o];rfl);have c0:wr.cell? ⟨bk,of+k*2,none⟩=some (.string nm):=hcell 0 (.string nm) rfl;have c1:=hcell 1 (.string vl) rfl;clear hcell h4 ml;obtain⟨wb,kj⟩:∃wb,wb=wr.alloc (.cells #[.string nm,.string vl] 171):=⟨_,rfl⟩;have kC:Fr aS wr wb:=by rw[kj];exact(ae aS wr).alloc _
   have lZ:wb.heap[wr.heap.size]?=some (.cells #[.string nm,.string vl] 171 (0,0)):=by rw[kj];exact aC _ _
   have HC:=O (show∀U,Fr aS wb U->U.cell? ⟨wr.heap.size,0,none⟩=some (.string nm)/\U.cell? ⟨wr.heap.size,1,none⟩=some (.string vl)from fun U hU=>by
    have j1:=hU.keep lZ id;simp[World.cell?,j1])
   have ri:=O kj;have mF:=O (cP.trans kC);have HO:=O (ho.fr kC (fun _ h=>h.elim));have HP:=O (hp.fr kC (fun _ h=>h.elim));have anq:=O (show∀j,(Value.slice ap (JY (ps.take k)).length cp).ownBlock=some j->j<wr.heap.size from fun j hj=>(hp.lt j (by rw[hpe];exact hj)).2);clear kj kC lZ ho hp cP;go_wp2_with fail
   rw[<-ri.o];refine(rD nm wb ab).mono ?_;rintro e u1⟨rfl,dk⟩;obtain⟨k0,k1⟩:=HC.o u1 dk;have ln:=O dk;clear dk c0 c1;go_wp2_with fail
   refine(Rf nm vl u1 ab ab).mono ?_;rintro e u2⟨rfl,dE⟩;obtain⟨k2,k3⟩:=HC.o u2 (ln.o.trans dE);have fU:=O ((mF.o.trans ln.o).trans dE);have zG:=ln.o.trans dE;have K3A:=O (show∀o:Obj,(u2.alloc o).cell? ⟨wr.heap.size,1,none⟩=some (.string vl)from fun o=>(HC.o _ (zG.alloc o)).2);have rk:=HO.o.fr zG (fun _ h=>h.elim);have Dx:=HP.o.fr zG (fun _ h=>h.elim);have xI:w.heap.size<=u2.heap.size:=fU.o.size
   rw[Ng]at rk Ze;rw[hpe]at Dx Ze;clear dE zG k0 k1;have HLA:=O (show(⟨(nD nm.data.toList).toArray⟩:aj)=tK nm from rfl);rw[HLA.o];generalize hla:tK nm=la at *
   have HE:=O hla;clear hla;cases UH:mo nm vl
   ·obtain⟨s1,s2,s3⟩:=IB (ps.take k) (nm,vl) UH;rw[<-Rj.o,HE.o]at s1;rw[<-Rj.o]at s2 s3;have S1:=O s1;have S2:=O s2;have S3:=O s3;clear s1 s2 s3 UH;go_wp2_with (at_builtin;refine B8 rfl _ _ rfl w.heap.size (.slice ao _ co) (wE (ps.take k)) rfl (by apply iM;exact rk) ⟨u2.heap.size,0,none⟩ 1 la rfl (jC _ _ _ _) ab bH ?_;intro v' w3 fC CV UI)
    have hp3:Strs w.heap.size w3 (.slice ap (JY (ps.take k)).length cp) (JY (ps.take k)):=(Dx.alloc _).kept CV (fun j hj=>Ze j hj);have adz:wF v' (.slice ap (JY (ps.take k)).length cp):=(wF.sep Ze.symm UI (Dx.alloc _)).symm;have il:=O ((fU.o.alloc (.cells #[.string la] 9)).fW CV (fun j hj=>(rk.block j hj)));go_roundw
    case rel=>exact⟨k+1,ab,bg,by rw[S3.o],by rw[S1.o];exact fC,by rw[S2.o];exact hp3,adz,il.o⟩
    case measure=>simp[intOf];omega
   ·obtain⟨s1,s2,s3⟩:=FG (ps.take k) (nm,vl) UH;have TJ:=KQ UH;rw[<-Rj.o,HE.o]at s2;rw[<-Rj.o]at s1 s3;have S1:=O s1;have S2:=O s2;have S3:=O s3;clear s1 s2 s3 UH
    go_wp2_with (at_builtin;refine B8 rfl _ _ rfl w.heap.size (.slice ap _ cp) (JY (ps.take k)) rfl (by apply iM;exact Dx) ⟨u2.heap.size,0,none⟩ 1 la rfl (jC _ _ _ _) ab bH ?_;intro v' w3 fC CV UI;have k4:w3.cell? ⟨wr.heap.size,1,none⟩=some (.string vl):=CV.cell (K3A.o _) (fun e=>absurd (anq.o _ e.symm) (Nat.lt_irrefl _)))
    have yz:Strs w.heap.size w3 (.slice ao (wE (ps.take k)).length co) (wE (ps.take k)):=(rk.alloc _).kept CV (fun j hj hj2=>Ze j hj2 hj);have adz:wF (.slice ao (wE (ps.take k)).length co) v':=wF.sep Ze UI (rk.alloc _);have il:=O ((fU.o.alloc (.cells #[.string la] 9)).fW CV (fun j hj=>(Dx.block j hj)));go_roundw
    case rel=>exact⟨k+1,ab,bg,by rw[S3.o];go_num,by rw[S1.o];exact yz,by rw[S2.o];exact fC,adz,il.o⟩
    case measure=>simp[intOf];omega
  ·have pE:¬(k:Int)<(ps.length:Int):=ab;have Rh:ps.take k=ps:=aD ab;rw[Rh]at ho hp Ng hpe hn TI Fp ⊢;clear Rh;subst Ng hpe;have hs0:w.heap.size<=wr.heap.size:=cP.size;obtain⟨N,hN⟩:∃N,N=nB ps:=⟨_,rfl⟩;have HR1:=O (show 1024<N->IA ps=wE ps++JY ps from fun e=>by unfold IA;rw[<-hN,az e]);have NH:=O (show¬1024<N->IA ps=wE ps from fun e=>by unfold IA;rw[<-hN,aq e,dV]);rw[<-hN]at hn ⊢;clear hN
   by_cases AY:1024<N
   ·have HR:=O (HR1.o AY);have anr:(1024:Int)<(N:Int):=ab;go_wp2_with (at_builtin;refine KP rfl _ _ rfl w.heap.size _ (wE ps) rfl ho (.slice ap (JY ps).length cp) (JY ps) rfl hp.at ab ab ?_;intro v2 w2 rk xT)
    rw[<-HR.o]at rk;have fU:=O (cP.fW xT (fun j hj=>ho.block j hj));have vN:(IA ps).length<1000000:=by rw[HR.o,aK];omega
    clear xT ho hp Ze;go_wp2_with fail
    refine(Gu w.heap.size v2 (IA ps) w2 rk vN).mono ?_;rintro e w3⟨rfl,yz,CV⟩;have il:=O (fU.o.fW CV (fun j hj=>rk.block j hj));go_wp2_with fail
    refine(zF w.heap.size v2 _ w3 yz (by unfold uM;simpa using vN)).mono ?_;rintro e w4⟨u,rfl,TK,CC⟩;have j6:=O (il.o.fW CC (fun j hj=>yz.block j hj));go_wp2;go_ret;exact⟨u,rfl,TK,j6.o⟩
   ·have HR:=O (NH.o AY);have anr:¬(1024:Int)<(N:Int):=ab;rw[<-HR.o]at ho;have vN:(IA ps).length<1000000:=by rw[HR.o];omega
    rw[<-HR.o];go_wp2_with fail
    refine(Gu w.heap.size _ (IA ps) wr ho vN).mono ?_;rintro e w3⟨rfl,yz,CV⟩;have il:=O (cP.fW CV (fun j hj=>ho.block j hj));go_wp2_with fail
    refine(zF w.heap.size _ _ w3 yz (by unfold uM;simpa using vN)).mono ?_;rintro e w4⟨u,rfl,TK,CC⟩;have j6:=O (il.o.fW CC (fun j hj=>yz.block j hj));go_wp2;go_ret;exact⟨u,rfl,TK,j6.o⟩
open Go.RowKit
def P7(t:Bs):Prop:=∃n m:Bs,t=n++m/\n≠ []/\n.all FE=true/\m.all lz=true
def P8(p:jF):Prop:=Bc p.1=true/\Ip p.2=true
structure nA.Ok (x:nA):Prop where
 scheme:Bc x.scheme=true
 token:x.token=[]\/(x.params=[]/\P7 x.token)
 sZ:x.params.length<=16
 zH:∀p∈x.params,P8 p
 apart:∀(i j:Nat) p q,i<j->x.params[i]?=some p->x.params[j]?=some q->dL p.1 q.1=false
theorem taken(p:UInt8->Bool):∀l:Bs,(l.takeWhile p).all p=true
 |[]=>rfl
 |c :: l=>by
  cases h:p c
  ·rw[List.takeWhile_cons_of_neg (by simp[h])];rfl
  ·rw[List.takeWhile_cons_of_pos h,List.all_cons,h,taken p l];rfl
theorem DA(h:(ic r).isEmpty=false):Bc (ic r)=true:=by
 unfold Bc;rw[h];have:(ic r).all gq=true:=taken gq r;rw[this];rfl
theorem DB:∀(f:Nat) (r a z:Bs),r.length<=f->v8 r=some (a,z)->a.all nE=true
 |0,r,a,z,hf,h=>by
  have:r=[]:=ct ab;subst this;rw[v8.eq_def]at h;simp at h
 |f+1,[],a,z,hf,h=>by rw[v8.eq_def]at h;simp at h
 |f+1,x :: r,a,z,hf,h=>by
  rw[v8.eq_def]at h;simp only at h;by_cases h1:(x==34)=true
  ·rw[az h1]at h;cases h;rfl
  ·rw[aq h1]at h;by_cases h2:(x==92)=true
   ·rw[az h2]at h;cases r with
    |nil=>simp at h
    |cons y r' =>
     simp only at h;by_cases h3:nE y=true
     ·rw[az h3]at h;cases hq:v8 r' with
      |none=>rw[hq]at h;simp at h
      |some p =>
       rw[hq]at h;simp at h;obtain⟨rfl,rfl⟩:=h;have:=DB f r' p.1 p.2 (by simp at hf;omega) hq;rw[List.all_cons,h3,this];rfl
     ·rw[aq h3]at h;simp at h
   ·rw[aq h2]at h;by_cases h3:nE x=true
    ·rw[az h3]at h;cases hq:v8 r with
     |none=>rw[hq]at h;simp at h
     |some p =>
      rw[hq]at h;simp at h;obtain⟨rfl,rfl⟩:=h;have:=DB f r p.1 p.2 (by simp at hf;omega) hq;rw[List.all_cons,h3,this];rfl
    ·rw[aq h3]at h;simp at h
theorem Rk{a:Bs}(h:pT r=some (a,z)):Ip a=true:=by
 unfold pT at h;unfold Ip;split at h
 ·cases r with
  |nil=>cases h
  |cons c t =>
   have h':(if c==34 then v8 t else none)=some (a,z):=h;by_cases hc:(c==34)=true
   ·rw[az hc]at h';have:=DB _ t a z (ay _) h';rw[show oo a=true from this,kA]
   ·rw[aq hc]at h';cases h'
 ·rename_i hw;cases h;rw[DA (by simpa using hw)];rfl
theorem Gx(h:lo ps r=.ok (p,z)):P8 p/\uH ps p.1=false/\ps.length≠16:=by
 unfold lo at h;by_cases hn:lT r=true
 ·rw[aq (by simp[hn])]at h;cases hv:pT (nN r)with
  |none=>rw[hv]at h;cases h
  |some q =>
   rw[hv]at h;simp only at h;split at h
   ·cases h
   rename_i ht;split at h
   ·cases h
   rename_i hk;cases h;exact⟨⟨DA (BZ hn),Rk (a:=q.1) (z:=q.2) hv⟩,by simpa using ht,hk⟩
 ·rw[az (by simpa using hn)]at h;cases h
structure wI (ps:List jF):Prop where
 sZ:ps.length<=16
 zH:∀p∈ps,P8 p
 apart:∀(i j:Nat) p q,i<j->ps[i]?=some p->ps[j]?=some q->dL p.1 q.1=false
theorem wI.nil:wI []:=⟨aR,aR,aR⟩
theorem wI.snoc(h:wI ps)(hp:P8 p)(ht:uH ps p.1=false)(hl:ps.length≠16):wI (ps++[p]):=by
 refine⟨?_,?_,?_⟩
 ·have:=h.sZ;simp;omega
 ·intro q hq;rcases bL.1 hq with g|g
  ·exact h.zH q g
  ·simp at g;subst g;exact hp
 ·intro i j q q' Rl hi hj;have hj':=(List.getElem?_eq_some_iff.1 hj).1;simp at hj';by_cases Zk:j<ps.length
  ·rw[List.getElem?_append_left Zk]at hj;rw[List.getElem?_append_left ab]at hi;exact h.apart i j q q' Rl hi hj
  ·have e:j=ps.length:=ab;subst e;rw[List.getElem?_append_left ab]at hi;simp at hj;subst hj;unfold uH at ht;rw[fc]at ht;simpa using ht q (bQ hi)
theorem DC:∀(f:Nat) (ps:List jF) (r:Bs) (q:List jF×Bs),wI ps->gZ f ps r=.ok q->wI q.1
 |0,ps,r,q,ho,h=>by rw[gZ]at h;cases h;exact ho
 |f+1,ps,r,q,ho,h=>by
  rw[gZ]at h;cases hp:lo ps r with
  |error e=>rw[hp]at h;cases h
  |ok p =>
   rw[hp]at h;obtain⟨p,r1⟩:=p;obtain⟨h1,h2,h3⟩:=Gx hp;have Ft:=ho.snoc h1 h2 h3;simp only at h;split at h
   ·split at h
    ·exact DC f _ _ q Ft h
    ·cases h;exact Ft
   ·cases h
theorem NK{t:Bs}(h:singleR r=some (t,z)):P7 t:=by
 unfold singleR at h;split at h
 ·rename_i hc;cases h;simp only[cy,Bool.not_eq_true']at hc;refine⟨_,_,rfl,fun e=>?_,?_,?_⟩
  ·rw[e]at hc;cases hc.1
  ·exact taken FE r
  ·exact taken lz _
 ·cases h
theorem P9{x:nA}(h:pA k r=.ok (x,z)):x.Ok/\k≠8:=by
 unfold pA at h;split at h
 ·cases h
 rename_i hw;have hw':=DA (show(ic r).isEmpty=false by simpa using hw);split at h
 ·cases h
 rename_i hk;refine⟨?_,hk⟩;split at h
 ·cases h;exact⟨hw',Or.inl rfl,aR,aR,aR⟩
 split at h
 ·cases h
 split at h
 ·rename_i q hq;cases h;exact⟨hw',Or.inr ⟨rfl,NK (t:=q.1) (z:=q.2) hq⟩,aR,aR,aR⟩
 ·split at h
  ·cases h
  ·rename_i q hq;cases h;have:=DC _ _ _ _ wI.nil hq;exact⟨hw',Or.inl rfl,this.sZ,this.zH,this.apart⟩
theorem Gy:∀(f:Nat) (acc:List nA) (r:Bs) (l:List nA),(∀x∈acc,x.Ok)->acc.length<=8->kq f acc r=.ok l->(∀x∈l,x.Ok)/\l.length<=8
 |0,acc,r,l,ha,hl,h=>by rw[kq]at h;cases h;exact⟨ha,hl⟩
 |f+1,acc,r,l,ha,hl,h=>by
  rw[kq]at h;split at h
  ·cases h;exact⟨ha,hl⟩
  ·cases ho:pA acc.length (iP r)with
   |error e=>rw[ho]at h;cases h
   |ok q =>
    obtain⟨x,r1⟩:=q;rw[ho]at h;obtain⟨h1,h2⟩:=P9 ho;simp only at h;refine Gy f _ r1 l ?_ ?_ h
    ·intro y hy;rcases bL.1 hy with g|g
     ·exact ha y g
     ·simp at g;subst g;exact h1
    ·simp;omega
theorem KW{l:List nA}(h:mJ r=.ok l):(∀x∈l,x.Ok)/\l.length<=8:=by
 unfold mJ at h;split at h
 ·cases h
 ·exact Gy _ _ _ _ aR aR h
def Rm(p:jF)(x:Bs):Bs:=p.1++61 :: x
def xW:List (jF×Bs)->Bs
 |[]=>[]
 |[p]=>Rm p.1 p.2
 |p :: q :: l=>Rm p.1 p.2++44 :: 32 :: xW (q :: l)
def iR(w:World)(b c:Nat)(s:aj)(v:Value):Prop:=w.heap[b]?=some (.cells #[.pointer (some ⟨c,0,none⟩),.string s,v] 195 (0,0))
section
variable {w w' : World} {b c i : Nat} {s t : ByteArray} {v : Value}
theorem iR.cell0(h:iR w b c s v):w.cell? ⟨b,0,none⟩=some (.pointer (some ⟨c,0,none⟩)):=by simp[World.cell?,show w.heap[b]?=_ from h]
theorem iR.ib(h:iR w b c s v):w.cell? ⟨b,1,none⟩=some (.string s):=by simp[World.cell?,show w.heap[b]?=_ from h]
theorem iR.mg(h:iR w b c s v):w.cell? ⟨b,2,none⟩=some v:=by simp[World.cell?,show w.heap[b]?=_ from h]
theorem iR.free(h:iR w b c s v)(k:Nat):w.frozen? ⟨b,k,none⟩=false:=by simp[World.frozen?,show w.heap[b]?=_ from h]
theorem iR.ne(h:iR w b c s v)(g:dz w c t i):b≠c:=by
 intro e;subst e;have h':w.heap[b]?=_:=h;have g':w.heap[b]?=_:=g;rw[h']at g';simp at g'
theorem iR.fr(h:iR w b c s v)(hf:Fr S w w')(hn:¬S b):iR w' b c s v:=hf.keep h hn
theorem iR.one(h:iR w b c s v)(g:dz w c t i)(hf:Fr (one c) w w'):iR w' b c s v:=h.fr hf (fun e=>h.ne g e)
theorem iR.lt(h:iR w b c s v):b<w.heap.size:=bq h
theorem iR.drewN(h:iR w b c s v):iR (w.drewN n) b c s v:=h
end
theorem UM(l:Bs)(k:Nat)(hk:k<=l.length):cQ oD l (cQ dN l k)=cQ oD l k:=by
 have e1:l.drop (cQ oD l (cQ dN l k))=l.drop (cQ oD l k):=by
  rw[kp,kp,kp];exact uJ _
 have h1:cQ oD l (cQ dN l k)<=l.length:=ij (ij hk);have h2:cQ oD l k<=l.length:=ij hk;have:=ar List.length e1;simp at this;omega
theorem NL{l:Bs}(h:l[k]?=some 44):cQ oD l (k+1)=cQ oD l k:=(oQ h ag).symm
theorem Ro{l:Bs}(h:cQ dN l k=k)(h2:l[k]?≠some 44):cQ oD l k=k:=by
 refine lR (fun c hc=>?_);unfold oD;cases hb:dN c
 ·have:c≠44:=fun e=>h2 (by rw[hc,e]);simpa using this
 ·have:=oQ (p:=dN) hc hb;have h3:=lS (p:=dN) (l:=l) (i:=k+1);omega
theorem xv(s:aj)(k:Nat)(c:UInt8):kx s k c=true↔s.data.toList[k]?=some c:=by unfold kx;simp
theorem DE(b c i:Nat)(s:aj)(v:Value)(w:World)(hr:iR w b c s v)(h:dz w c s i)(hs:s.size<=maxLen)(hi:i<=s.size) :
  aB 111 #[.pointer (some ⟨b,0,none⟩)] w fun e w'=>e=.returned (.tuple #[])/\dz w' c s (cQ oD s.data.toList i)/\Fr (one c) w w':=by
 go_enter func111,ntmps111;go_wp2;go_loopw[] (fun wr=>∃k,k<=s.size/\dz wr c s k/\cQ oD s.data.toList k=cQ oD s.data.toList i/\Fr (one c) w wr) (fun wr=>s.size-pN wr c)
 case atStart=>exact⟨i,hi,h,rfl,ae _ _⟩
 case round =>
  obtain⟨k,hk,hc,qI,cP⟩:=hrel;have xn:=O qI;clear qI;have zg:=hr.one h cP;have q0:=zg.cell0;have qq:=O hc.pos;have UN:k<=s.data.toList.length:=by simpa using hk
  have HG:=O (UM s.data.toList k UN);have lZ:cQ dN s.data.toList k<=s.size:=by simpa using ij (p:=dN) UN
  have JZ:k<=cQ dN s.data.toList k:=lS;go_wp2_with fail
  refine(mI c s k wr hc hs hk).mono ?_;rintro e w1⟨rfl,pK,dk⟩;have ln:=O (cP.trans dk);have oF:=zg.one hc dk;have q1:=oF.cell0;generalize hK:cQ dN s.data.toList k=K at *
  have HK:=O hK;clear hK q0;by_cases sS:k<K
  ·have hd:decide (k<K)=true:=bJ sS;rw[hd];go_wp2;go_roundw
   case rel=>exact⟨K,lZ,pK,HG.o.trans xn.o,ln.o⟩
   case measure=>rw[qq.o,pK.pos];omega
  ·have hd:decide (k<K)=false:=bj sS;have hKk:K=k:=ab;subst hKk;rw[hd];go_wp2_with fail
   refine(qp c s K 44 w1 pK hs).mono ?_;rintro e w2⟨rfl,sR,dE⟩;have fU:=O (ln.o.trans dE);cases hm:kx s K 44
   ·have jx:=O (Ro HK.o (fun e=>by rw[(xv s K 44).2 e]at hm;cases hm));rw[pM hm]at sR;go_wp2;go_end0;rw[<-xn.o,jx.o];exact⟨rfl,sR,fU.o⟩
   ·have jx:=O (NL ((xv s K 44).1 hm));rw[pL hm]at sR;have anu:K<s.size:=by
     have:=(List.getElem?_eq_some_iff.1 ((xv s K 44).1 hm)).1;simpa using this
    go_wp2;go_roundw
    case rel=>exact⟨K+1,anu,sR,jx.o.trans xn.o,fU.o⟩
    case measure=>rw[qq.o,sR.pos];omega
def eN(s:aj)(i:Nat):Nat:=cQ dN s.data.toList i
theorem yC(h:i<=s.size):eN s i<=s.size:=by
 unfold eN;simpa using ij (p:=dN) (l:=s.data.toList) (i:=i) (by simpa using h)
theorem oY(s:aj)(i:Nat):s.data.toList.drop (eN s i)=fb (s.data.toList.drop i):=kp _ _ _
theorem Zm(s:aj)(i:Nat):oq (s.data.toList.drop i)=(decide (s.size<=eN s i)||kx s (eN s i) 44):=by
 unfold oq;rw[<-oY];by_cases h:s.size<=eN s i
 ·rw[cV (by simpa using h)];simp[h,Uw]
 ·have sS:eN s i<s.data.toList.length:=by simpa using h
  rw[cX sS,bj h,jU];unfold Uw kx;rw[List.getElem?_eq_getElem sS,fj];simp
theorem uP(h:k<=n):Uu (k:Int) n=k:=by unfold Uu;omega
theorem DF(b c i:Nat)(s:aj)(v:Value)(w:World)(hr:iR w b c s v)(h:dz w c s i)(hs:s.size<=maxLen)(hi:i<=s.size) :
  aB 168 #[.pointer (some ⟨b,0,none⟩)] w fun e w'=>e=.returned (.bool (oq (s.data.toList.drop i)))/\dz w' c s (eN s i)/\Fr (one c) w w':=by
 have q0:=hr.cell0;have hb:=yC hi;have HO:=O (Zm s i);generalize hK:eN s i=K at *
 have HK:=O hK;clear hK;go_enter func168,ntmps168;go_wp2_with fail
 refine(mI c s i w h hs hi).mono ?_;rintro e w1⟨rfl,pK,dk⟩;replace pK:dz w1 c s (eN s i):=pK;rw[HK.o]at pK;have zg:=hr.one h dk;have q1:=zg.cell0;clear q0;go_wp2_with fail
 refine(Bb c s K w1 pK).mono ?_;rintro e w2⟨rfl,rfl⟩;go_wp2_with fail
 refine(xm c s K w1 pK).mono ?_;rintro e w3⟨rfl,n3,rfl⟩;have uG:dz (w1.drewN n3) c s K:=pK.drewN n3;have iz:Fr (one c) w (w1.drewN n3):=dk.drewN n3;have q3:=(zg.drewN (n:=n3)).cell0;clear q1;by_cases he:s.size<=K
 ·have hd:decide (s.size<=K)=true:=bJ he;have HO2:=O (show oq (s.data.toList.drop i)=true by rw[HO.o,hd];rfl);rw[hd];clear HO;go_wp2_with fail
  refine(yu c s K K (w1.drewN n3) uG hs).mono ?_;rintro e w4⟨rfl,uD,kS⟩;rw[uP hb]at uD;go_wp2;go_ret;rw[HO2.o];exact⟨rfl,uD,iz.trans kS⟩
 ·have hd:decide (s.size<=K)=false:=bj he;have HO2:=O (show oq (s.data.toList.drop i)=kx s K 44 by rw[HO.o,hd];rfl);rw[hd];clear HO;go_wp2_with fail
  refine(qp c s K 44 (w1.drewN n3) uG hs).mono ?_;rintro e w4⟨rfl,uD,kS⟩;have q4:=((zg.drewN (n:=n3)).one uG kS).cell0;clear q3;go_wp2_with fail
  refine(yu c s _ K w4 uD hs).mono ?_;rintro e w5⟨rfl,uE,lN⟩;rw[uP hb]at uE;go_wp2;go_ret;rw[HO2.o];exact⟨rfl,uE,(iz.trans kS).trans lN⟩
def J0(s:aj)(i:Nat):Nat:=cQ gq s.data.toList i
theorem IH(h:i<=s.size):J0 s i<=s.size:=by
 unfold J0;simpa using ij (p:=gq) (l:=s.data.toList) (i:=i) (by simpa using h)
theorem wK(s:aj)(i:Nat):s.data.toList.drop (J0 s i)=iD (s.data.toList.drop i):=kp _ _ _
theorem zK(s:aj)(i:Nat):s.extract i (J0 s i)=⟨(ic (s.data.toList.drop i)).toArray⟩:=zw _ _ _
theorem Zn(s:aj)(k:Nat)(c:UInt8):Nx c (s.data.toList.drop k)=kx s k c:=by
 unfold kx;rcases eS k s.data.toList.length with h|h
 ·rw[cX h,List.getElem?_eq_getElem h,fj];simp[Nx]
 ·rw[cV h,List.getElem?_eq_none h];simp[Nx]
theorem K_(s:aj)(i:Nat):lT (s.data.toList.drop i)=(!(ic (s.data.toList.drop i)).isEmpty&&kx s (eN s (J0 s i)) 61):=by
 unfold lT;rw[<-wK, <-oY,Zn]
theorem toList_mk(l:Bs):(⟨l.toArray⟩:aj).toList=l:=by rw[Go.ByteArray.toList_eq]
theorem NM(b c i:Nat)(s:aj)(v:Value)(w:World)(hr:iR w b c s v)(h:dz w c s i)(hs:s.size<=maxLen)(hi:i<=s.size) :
  aB 171 #[.pointer (some ⟨b,0,none⟩)] w fun e w'=>e=.returned (.bool (lT (s.data.toList.drop i)))/\dz w' c s i/\Fr (one c) w w':=by
 have q0:=hr.cell0;have HN:=O (K_ s i);have hw:=IH hi;go_enter func171,ntmps171;go_wp2_with fail
 refine(Bb c s i w h).mono ?_;rintro e w0⟨rfl,rfl⟩;go_wp2_with fail
 refine(wj c s i w h hs hi).mono ?_;rintro e w1⟨rfl,pK,dk⟩;replace pK:dz w1 c s (J0 s i):=pK;rw[show s.extract i (cQ gq s.data.toList i)=⟨(ic (s.data.toList.drop i)).toArray⟩from zK s i];generalize J0 s i=K at *
 generalize ic (s.data.toList.drop i)=W at *
 have zg:=hr.one h dk;have q1:=zg.cell0;clear q0;go_wp2_with fail
 refine(mI c s K w1 pK hs hw).mono ?_;rintro e w2⟨rfl,sR,dE⟩;replace sR:dz w2 c s (eN s K):=sR;have hb:=yC hw;generalize eN s K=M at *
 have oF:=zg.one pK dE;have q2:=oF.cell0;have fU:=O (dk.trans dE);clear q1 dk dE;cases W with
 |nil =>
  have HN2:=O (show lT (s.data.toList.drop i)=false by rw[HN.o];rfl);clear HN;go_wp2_with fail
  refine(yu c s M i w2 sR hs).mono ?_;rintro e w4⟨rfl,uD,kS⟩;rw[uP hi]at uD;go_wp2;go_ret;rw[HN2.o];exact⟨rfl,uD,fU.o.trans kS⟩
 |cons x W =>
  have HN2:=O (show lT (s.data.toList.drop i)=kx s M 61 by rw[HN.o];rfl);clear HN;go_wp2_with fail
  refine(qp c s M 61 w2 sR hs).mono ?_;rintro e w3⟨rfl,uG,iz⟩;have q3:=(oF.one sR iz).cell0;clear q2;go_wp2_with fail
  refine(yu c s _ i w3 uG hs).mono ?_;rintro e w4⟨rfl,uD,kS⟩;rw[uP hi]at uD;go_wp2;go_ret;rw[HN2.o];exact⟨rfl,uD,(fU.o.trans iz).trans kS⟩
def Rz:List Int:=[0,1,56,2,57,49,28,3,61,58,42,50,38,29,17,4,62,47,59,36,45,43,51,22,53,39,33,30,24,18,12,5,63,55,48,27,60,41,37,16,46,35,44,21,52,32,23,11,54,26,40,15,34,20,31,10,25,14,19,9,13,8,7,6]
theorem D1{W:World}{laid:List (String×DataW Unit)}(h:laidMet prog laid W)(hm:("math/bits.deBruijn64tab",Lib.tabData .u8 Rz)∈laid/\True):ow W 9 .u8 Rz :=
 wR (rS h hm.1 (g:=9) af af underlying340 underlying5 af af) af ag
theorem adX(w:World)(h:ow w 9 .u8 Rz) :
  aB 273 #[.int .u64 16] w fun e w'=>e=.returned (.int .i64 4)/\w'=w:=by
 have hc:w.cell? ⟨9,15,none⟩=some (.int .u8 4):=h.2 15 4 rfl;have hb:bits .and .u64 16 18446744073709551600=16:=dw;have hw:IntKind.u64.wrap (-16)=18446744073709551600:=dw;have eG:IntKind.u64.wrap (16*285870213051353865)=4573923408821661840:=dw;have U_:IntKind.u64.wrap 4573923408821661840=4573923408821661840:=dw;go_enter func273,ntmps273;go_wp2;go_ret;exact⟨rfl,rfl⟩
theorem Va(w:World) :
  aB 272 #[.int .i64 16] w fun e w'=>e=.returned (.bool true)/\w'=w:=by
 have hb:bits .and .i64 16 15=0:=dw;go_enter func272,ntmps272;go_wp2;go_ret;exact⟨rfl,rfl⟩
theorem Qr:∀n (h:n<16),(⟨#[48,49,50,51,52,53,54,55,56,57,97,98,99,100,101,102,103,104,105,106,107,108,109,110,111,112,113,114,115,116,117,118,119,120,121,122]⟩:aj)[n]'(Nat.lt_trans h ag)=DK n.toUInt8:=ag
def Qs(w:World)(g:Nat)(l:aH):Prop:=w.heap[g]?=some (.cells (uC l).toArray 323 (0,0))
theorem Qs.cell(h:Qs w g l){c:UInt8}(hj:l[j]?=some c):w.cell? ⟨g,j,none⟩=some (.int .u8 (c.toNat:Int)):=by
 obtain⟨hl,he⟩:=List.getElem?_eq_some_iff.1 hj;unfold Qs at h;simp only[World.cell?,h];simp[uC,hl,he]
theorem Qs.free(h:Qs w g l)(j:Nat):w.frozen? ⟨g,j,none⟩=false:=by
 unfold Qs at h;simp[World.frozen?,h]
theorem Qs.set(h:Qs w g l)(j:Nat)(c:UInt8):Qs (w.setCell ⟨g,j,none⟩ (.int .u8 (c.toNat:Int))) g (l.set j c):=by
 unfold Qs at h ⊢;simp only[World.setCell,Array.getElem?_modify,h];simp[uC,List.map_set]
theorem Qs.text{m:aH}(h:Qs w g (m++l))(hk:m.length=k) :
  (convert 177 9 (.slice (some ⟨g,k,none⟩) l.length c)).run prog w=.ok (.string ⟨l.toArray⟩) w:=by
 refine run_convert_bytes_back (P:=prog) w 177 9 5 ⟨g,k,none⟩ c l underlying177 underlying5 underlying9 ?_;intro j hj;have ea:(Addr.add ⟨g,k,none⟩ j)=⟨g,k+j,none⟩:=by unfold Addr.add;split<;>simp_all
 rw[ea];refine h.cell ?_;rw[List.getElem?_append_right ab,show k+j-m.length=j from ab];exact List.getElem?_eq_getElem hj
def FK(n j:Nat):aH:=List.replicate (65-j) 0++kV j n
theorem Vb(n j:Nat)(h:j<=65):(FK n j).length=65:=by unfold FK;rw[aK,fu,nZ];omega
theorem RA(n j:Nat)(h:j<65):FK n (j+1)=(FK n j).set (64-j) (DK (n/16^j%16).toUInt8):=by
 unfold FK;rw[<-Cb j n,show 65-j=(65-(j+1))+1 from ab,List.replicate_succ'];rw[cN,List.set_append,aq (by rw[fu];omega)];rw[fu,show 64-j-(65-(j+1))=0 from ab];rfl
theorem adY(q:Nat)(hq:q<18446744073709551616):bits .and .u64 (q:Int) 15=((q%16:Nat):Int):=by
 have h:=bits_and_u64_nat q 15 hq ag;rw[show((15:Nat):Int)=15 from rfl]at h;rw[h]
 congr 1
 exact Nat.and_two_pow_sub_one_eq_mod q 4
def aib(n g:Nat)(w:World)(u i:Value)(wr:World):Prop:=∃j m:Nat,j<=7/\m+1+j=65/\u=.int .u64 ((n/16^j:Nat):Int)/\i=.int .i64 ((m:Int)+1)/\Qs wr g (FK n j)/\Fr aS w wr
theorem RB(n:Nat)(w:World)(hn:n<4294967296)(h:ow w 9 .u8 Rz) :
  aB 245 #[.slice none 0 0,.int .u64 (n:Int),.int .i64 16,.bool false,.bool false] w fun e w' =>
   (∃j,j<8/\n<16^(j+1)/\e=.returned (.tuple #[.slice none 0 0,.string ⟨(kV (j+1) n).toArray⟩]))/\Fr aS w w':=by
 have gX:Fr aS w (w.alloc (.cells (uC (List.replicate 65 0)).toArray 323)):=(ae aS w).alloc _;have HTZ:=O (adX _ (h.fr gX));have ZO:=O (show Qs (w.alloc (.cells (uC (List.replicate 65 0)).toArray 323)) w.heap.size (FK n 0)from aC _ _);clear h;go_enter func245,ntmps245;go_wp2_with fail
 refine(Va _).mono ?_;rintro e w1⟨rfl,rfl⟩;go_wp2_with fail
 refine HTZ.o.mono ?_;rintro e w2⟨rfl,rfl⟩;go_wp2;go_loopw[1,13] (aib n w.heap.size w) (fun u _ _=>(intOf u).toNat)
 case atStart=>exact⟨0,64,ab,ab,aR,rfl,ZO.o,gX⟩
 case round =>
  obtain⟨j,m,hj,hm,rfl,rfl,hb,cP⟩:=hrel;have hq0:n/16^j<=n:=Nat.div_le_self _ _;have hsu:=O (RA n j ab);have yc:=O (show n/16^(j+1)=n/16^j/16 by rw[Nat.pow_succ,Nat.div_div_eq_div_mul]);have h7:=O (show 16<=n/16^j->j<7 from fun h=>by
   rcases eS j 7 with h1|h1
   ·exact h1
   ·obtain rfl:j=7:=ab;simp at h;omega)
  have aic:=O (show n/16^j<16->n<16^(j+1)from fun h=>by rw[Nat.pow_succ,Nat.mul_comm];exact(Nat.div_lt_iff_lt_mul (Nat.pow_pos ag)).1 h);have re:=O (hb.set m (DK (n/16^j%16).toUInt8));have hbl:=Vb n j ab;have hcell:=hb.cell (List.getElem?_eq_getElem (show m<(FK n j).length from ab));have arI:=hb.free m;generalize hq:n/16^j=q at *
  have h15:=adY q ab;have hr:q%16<16:=Nat.mod_lt _ ag;by_cases h16:16<=q
  ·have anT:(16:Int)<=(q:Int):=ab;go_wp2;rw[Qr _ hr];exact⟨⟨j+1,m-1,by have:=h7.o h16;omega,by have:=h7.o h16;omega,by rw[yc.o];rfl,by congr 1;omega,by rw[hsu.o,show 64-j=m from ab];exact re.o,cP.gN (p:=⟨w.heap.size,m,none⟩) (ay _) _⟩,by simp[intOf];omega⟩
  ·have anT:¬(16:Int)<=(q:Int):=ab;have au7:(m:Int)<=65:=ab;have arJ:m<=65:=ab;have aid:q<16:=ab;have e65:65-m=j+1:=ab;have hx:=re.o;rw[show q%16=q from ab,show(FK n j).set m (DK q.toUInt8)=List.replicate m 0++kV (j+1) n from by
    have h:=hsu.o;rw[show q%16=q from ab,show 64-j=m from ab]at h;rw[<-h];unfold FK;rw[show 65-(j+1)=m from ab]]at hx
   have BR:=hx.text (k:=m) (c:=j+1) aR;rw[nZ]at BR;clear hx hb re;go_wp2;rw[Qr _ aid,BR];go_wp2;go_ret2;exact⟨⟨j,ab,aic.o aid,rfl⟩,cP.gN (p:=⟨w.heap.size,m,none⟩) (ay _) _⟩
theorem Vc(n:Nat)(w:World)(hn:n<4294967296)(h:ow w 9 .u8 Rz) :
  aB 160 #[.int .i64 (n:Int),.int .i64 16] w fun e w' =>
   (∃j,j<8/\n<16^(j+1)/\e=.returned (.string ⟨(kV (j+1) n).toArray⟩))/\Fr aS w w':=by
 have HF:=O (RB n w hn h);clear h
 have h1:IntKind.u64.wrap (n:Int)=(n:Int):=by have e:IntKind.u64.wrap (n:Int)=(n:Int)%18446744073709551616:=by simp[IntKind.wrap,IntKind.signed,IntKind.bits]
                                              rw[e];omega
 have Yi:aB 210 #[.int .i64 (n:Int),.int .i64 16] w fun e w' =>
   (∃j,j<8/\n<16^(j+1)/\e=.returned (.string ⟨(kV (j+1) n).toArray⟩))/\Fr aS w w':=by
  go_enter func210,ntmps210;go_wp2_with fail
  refine HF.o.mono ?_;rintro e w1⟨⟨j,hj,C7,rfl⟩,hf⟩;have HN:=O C7;clear C7;go_wp2;go_ret;exact⟨⟨j,hj,HN.o,rfl⟩,hf⟩
 go_enter func160,ntmps160;go_wp2_with fail
 refine Yi.mono ?_;rintro e w1⟨⟨j,hj,C7,rfl⟩,hf⟩;have HN:=O C7;clear C7 Yi;go_wp2;go_ret;exact⟨⟨j,hj,HN.o,rfl⟩,hf⟩
theorem Lq(k:Nat):Lib.repeatL [48] k=List.replicate k 48:=by
 induction k with
 |zero=>rfl
 |succ k ih=>show([48]:aH)++Lib.repeatL [48] k=_;rw[ih,List.replicate_succ];rfl
theorem rF(n:Nat)(w:World)(hn:n<4294967296)(h:ow w 9 .u8 Rz) :
  aB 104 #[.int .i64 (n:Int)] w fun e w'=>e=.returned (.string ⟨(jK n).toArray⟩)/\Fr aS w w':=by
 have HF:=O (Vc n w hn h);clear h;go_enter func104,ntmps104;go_wp2_with fail
 refine HF.o.mono ?_;rintro e w1⟨⟨j,hj,C7,rfl⟩,hf⟩;have HC:=O (show jK n=Lib.repeatL [48] (7-j)++kV (j+1) n by unfold jK;rw[Lq,DM _ _ _ C7,show j+1+(7-j)=8 from ab]);have hl:=nZ (j+1) n;generalize kV (j+1) n=x at *
 clear C7;have hmx:max (0:Int) (8-((j:Int)+1))=((7-j:Nat):Int):=ab;go_wp2_with fail
 refine(strings_Repeat ⟨#[48]⟩ (7-j) w1 ab (by show 1*(7-j)<=_;omega)).mono ?_;rintro e w2⟨rfl,hb⟩;have dE:=fx hb;have vN:(Lib.repeatL [48] (7-j)).length=7-j:=by rw[Lq];simp
 have HS:=O (show(⟨(Lib.repeatL [48] (7-j)).toArray⟩++⟨x.toArray⟩:aj)=⟨(jK n).toArray⟩from by
  apply Go.WideShapes.bytes_inj;rw[HC.o];simp[gS])
 generalize Lib.repeatL [48] (7-j)=z at *
 have ZF:¬9223372036854775807<z.length+x.length:=ab;go_wp2;go_ret;exact⟨by rw[<-HS.o];rfl,hf.trans dE⟩
theorem zX(b:Bool)(w:World):aB 231 #[.bool b] w fun e w'=>e=.returned (.int .i64 (Ds b))/\w=w':=by
 cases b
 ·go_enter func231,ntmps231;go_wp2;go_ret;exact⟨rfl,rfl⟩
 ·go_enter func231,ntmps231;go_wp2;go_ret;exact⟨rfl,rfl⟩
def gG.dW(o:gG):adq:=⟨o.aG,o.host.data.toList,o.port⟩
def xM(o:gG):aj:=⟨(Gm o.dW).toArray⟩
def Qz(s:Bool):aj:=⟨(abM s).toArray⟩
theorem N8(sec:Bool)(host:aj)(port:Int)(h:port=Ds sec):xM ⟨sec,host,port⟩=Qz sec++host:=by
 apply Go.WideShapes.bytes_inj;unfold xM Gm gG.dW Qz;simp[h]
theorem RT(sec:Bool)(host:aj)(port:Int)(h:¬port=Ds sec):xM ⟨sec,host,port⟩=(Qz sec++host)++(⟨#[58]⟩++⟨(Lib.itoa port).toArray⟩):=by
 apply Go.WideShapes.bytes_inj;unfold xM Gm gG.dW Qz;simp[h]
theorem Fr.grow(w:World)(k:Nat)(os:Array Obj):Fr aS w (Sort.grow (w.drewN k) os):=fx (Lib.below_grow w.heap.size w (ay _) k os)
theorem Vt(o:gG)(w:World)(ht:wU w)(h0: -9223372036854775808<=o.port)(h1:o.port<=9223372036854775807)(hs:o.host.size<100000) :
  aB 195 #[.agg o.cells.toArray] w fun e w'=>e=.returned (.string (xM o))/\Fr aS w w':=by
 obtain⟨sec,host,port⟩:=o;have h0: -9223372036854775808<=port:=h0;have h1:port<=9223372036854775807:=h1;have hs:host.size<100000:=hs;have aom:=Lib.itoa_length_le port h0 h1;have hiz:(⟨(Lib.itoa port).toArray⟩:aj).size<=21:=by show(Lib.itoa port).toArray.size<=21;simpa using aom
 unfold gG.cells;obtain⟨wb,kj⟩:∃wb,wb=w.alloc (.cells #[.bool sec,.string host,.int .i64 port] 32):=⟨_,rfl⟩;have kC:Fr aS w wb:=by rw[kj];exact(ae aS w).alloc _
 have lZ:wb.heap[w.heap.size]?=some (.cells #[.bool sec,.string host,.int .i64 port] 32 (0,0)):=by rw[kj];exact aC _ _
 have c0:wb.cell? ⟨w.heap.size,0,none⟩=some (.bool sec):=by simp[World.cell?,lZ]
 have c1:wb.cell? ⟨w.heap.size,1,none⟩=some (.string host):=by simp[World.cell?,lZ]
 have c2:wb.cell? ⟨w.heap.size,2,none⟩=some (.int .i64 port):=by simp[World.cell?,lZ]
 have Cj:=O (show∀m,aB 232 #[.int .i64 port] (wb.drewN m) fun e w'=>e=.returned (.string ⟨(Lib.itoa port).toArray⟩)/\Fr aS w w' from fun m =>
  (strconv_Itoa port h0 h1 _ ((ht.fr kC).fr ((ae aS wb).drewN m))).mono fun e w' h=>by
   obtain⟨he,k,os,rfl⟩:=h;exact⟨he,(kC.drewN m).trans (Fr.grow _ k os)⟩)
 have ri:=O kj;clear kj lZ;by_cases hp:port=Ds sec
 ·have HT:=O (N8 sec host port hp);have GQ:(port !=Ds sec)=false:=by simpa using hp
  have mF:=O kC;cases sec
  ·clear hp;go_enter func195,ntmps195;go_wp2;rw[<-ri.o];go_quiet ((go_at_call 231;exact ub (zX false _)));go_wp2;go_ret;exact⟨by rw[HT.o];rfl,mF.o.drewN _⟩
  ·clear hp;go_enter func195,ntmps195;go_wp2;rw[<-ri.o];go_quiet ((go_at_call 231;exact ub (zX true _)));go_wp2;go_ret;exact⟨by rw[HT.o];rfl,mF.o.drewN _⟩
 ·have HT:=O (RT sec host port hp);have GQ:(port !=Ds sec)=true:=by simpa using hp
  have mF:=O kC;cases sec
  ·clear hp;go_enter func195,ntmps195;go_wp2;rw[<-ri.o];go_quiet ((go_at_call 231;exact ub (zX false _)));go_wp2_with fail
   refine(Cj.o _).mono ?_;rintro e u⟨rfl,yL⟩;go_wp2;go_ret;exact⟨by rw[HT.o];rfl,yL⟩
  ·clear hp;go_enter func195,ntmps195;go_wp2;rw[<-ri.o];go_quiet ((go_at_call 231;exact ub (zX true _)));go_wp2_with fail
   refine(Cj.o _).mono ?_;rintro e u⟨rfl,yL⟩;go_wp2;go_ret;exact⟨by rw[HT.o];rfl,yL⟩
theorem yM:(prog.info? 114).map (fun i=>(i.zero,i.size,i.bytes))=some (some (.agg eY),16,216):=af
theorem yN:eY.all (·.oneCell')=true:=dw
def RV(base:Nat)(w:World)(gs:List (aQ bE))(v:Value)(w':World):Prop:=gy base w' v gs/\∀k,v.ownBlock=some k->w.heap.size<=k
def Ee(base:Nat)(w:World)(gs:List (aQ bE))(e:Ending)(w':World):Prop :=
 ∃v,e=.returned v/\RV base w gs v w'/\Fr aS w w'
def aiD(base:Nat)(w:World)(gs:List (aQ bE))(v i:Value)(wr:World):Prop :=
 ∃(k:Nat) (rs:List (aQ Value)),k<=gs.length/\i=.int .i64 k/\OwnRows w.heap.size 114 16 wr v (rs.map aQ.cells)/\lq (aQ.Reads (dx base wr)) rs (gs.take k)/\Fr aS w wr
theorem Ef(base:Nat)(w:World)(b:Nat)(gv wv:Value)(gs:List (aQ bE))(ws:List (bK bE))(h:dH base w b gv wv gs ws)(Oa:gs.length<68719476736) :
  aB 47 #[.pointer (some ⟨b,0,none⟩)] w (Ee base w gs):=by
 have h0:=h.c0;obtain⟨av,cv,hv⟩:=h.bG.form;subst hv;have sS:=h.lt;have iL:base<=w.heap.size:=by have:=h.low;omega
 go_enter func47,ntmps47;go_wp2;clear h0;go_loopw[3,11] (aiD base w gs) (fun _ i _=>gs.length-(intOf i).toNat)
 case atStart=>exact⟨0,[],aL _,rfl,dB _ _ _ _,.nil,ae _ _⟩
 case round =>
  obtain⟨k,rs,hk,rfl,cW,wV,cP⟩:=hrel;by_cases fe:k<gs.length
  ·obtain⟨bk,c,dk,tu,r,ef,hr,hcell⟩:=(h.dm cP).bG.at fe;cases dk;unfold maxLen at tu;obtain⟨x,hx⟩:∃x,x=r.cells:=⟨_,rfl⟩;have lM:x.length=16:=by rw[hx];rfl
   have jx:=fun W=>run_storeCells_new (P:=prog) W 114 #[.bool false,.string ⟨#[]⟩,.int .i64 0,.bool false,.string ⟨#[]⟩,.string ⟨#[]⟩,.int .i64 0,.string ⟨#[]⟩,.string ⟨#[]⟩,.string ⟨#[]⟩,.bool false,.string ⟨#[]⟩,.bool false,.slice none 0 0,.int .i64 0,.slice none 0 0] x (by rw[lM];rfl) (by rw[hx];exact ef);rw[<-hx]at hcell;have HX:=O hx
   have Ed:(prog.info? 114).map (·.size)=some x.toArray.size:=by rw[aX,lM];kernel_rfl
   have I9:=O Ed;clear hx Ed;obtain⟨av,cv,Vy⟩:=cW.form;subst Vy;rw[ai,wV.len,aJ,dP hk]at cW ⊢
   go_wp2_with (first|((with_reducible refine dr 14 ?_);refine aY rfl 114 (.tmp 13) rfl bk (k*16) rfl x _ hcell underlying114 rfl (by have h:=I9.o;rw[aX]at h;exact h) ?_)|((with_reducible refine dr 16 ?_);refine aI rfl 114 (.tmp 5) rfl wr.heap.size rfl _ x.toArray (0,0) _ (aC wr _) underlying114 rfl I9.o ?_)|fail)
   have gX:Fr aS wr (wr.alloc (.cells x.toArray 114)):=(ae aS wr).alloc _;have oF:=hr.mono (fun _ _ h=>h.dm gX);have fG:=cW.alloc (.cells x.toArray 114);have Eg:=wV.mono (fun _ _ h=>h.mono (fun _ _ h=>h.dm gX));have qD:=cP.trans gX;have kj:w.heap.size<=wr.heap.size:=cP.size;have fH:=O (uU base r gs[k] _ bH oF);rw[<-HX.o]at fH;clear hr oF gX ef jx hcell cW wV cP
   generalize wr.alloc (.cells x.toArray 114)=W2 at *
   refine fH.o.mono ?_;rintro e w3 Ob;obtain⟨r3,rfl,rP,qZ,iz⟩:=Ob;have fC:=fG.fr iz (fun _ _ h=>h);have Eh:=Eg.mono (fun _ _ h=>h.mono (fun _ _ h=>h.dm iz));have il:=qD.trans iz;clear fH fG Eg qD iz;obtain⟨y,hy⟩:∃y,y=r3.cells:=⟨_,rfl⟩;have Du:y.length=16:=by rw[hy];rfl
   rw[<-hy]at qZ ⊢;have HY:=O hy;clear hy;have Ei:=O fC;clear fC;have GV:=wJ y #[.bool false,.string ⟨#[]⟩,.int .i64 0,.bool false,.string ⟨#[]⟩,.string ⟨#[]⟩,.int .i64 0,.string ⟨#[]⟩,.string ⟨#[]⟩,.string ⟨#[]⟩,.bool false,.string ⟨#[]⟩,.bool false,.slice none 0 0,.int .i64 0,.slice none 0 0] (by rw[Du];rfl);have hbw:w.heap.size<=w3.heap.size:=il.size;have vN:=Eh.len;rw[aJ,dP hk]at vN
   have HRL:=O vN;have N7:(rs.map aQ.cells).length<68719476736:=by rw[ai,vN];omega
   clear vN;go_wp2_with (at_builtin;refine nY rfl _ _ 77 114 rfl 16 216 (.agg eY) underlying77 yM rfl ag ag w.heap.size (.slice av k cv) (rs.map aQ.cells) rfl (Ei.o.alloc _) w3.heap.size 1 y rfl Du qZ (fun i u hi=>by rw[World.cell?_alloc_mark];simpa using hi) N7 bH ?_;intro v' w4 fg CC)
   have Fw:=Fr.Qa _ CC;have nd:=Ei.o.off (base:=base) iL ag;rw[HY.o]at fg;refine⟨⟨k+1,rs++[r3],ab,bg,by rw[bI];exact fg,?_,il.step Fw (fun j hj hS=>by have h2:=Ei.o.block j hS;omega)⟩,by simp[intOf];omega⟩;rw[d_ (List.getElem?_eq_getElem fe)];exact(Eh.mono (fun _ _ h=>h.mono (fun _ _ h=>h.fr Fw nd))).app (.cons (rP.mono (fun _ _ h=>h.fr Fw nd)) .nil)
  ·rw[aD ab]at wV;obtain⟨av,cv,Vy⟩:=cW.form;subst Vy;go_wp2;go_ret;exact⟨_,rfl,⟨⟨rs,cW.up iL,wV⟩,cW.block⟩,cP⟩
theorem LB{α:Type}(f:α->Int):∀(l:List α) (i:Nat) (acc:Int×Int),(∃k,k<l.length/\(o_ f l i acc).2=((i+k:Nat):Int))\/(o_ f l i acc).2=acc.2
 |[],_,_=>Or.inr rfl
 |g :: l,i,acc=>by
  rw[o_];rcases LB f l (i+1) (if 0<=f g/\acc.1<=f g then(f g,(i:Int))else acc)with ⟨k,hk,h⟩|h
  ·exact Or.inl ⟨k+1,bH,by rw[h];congr 1;omega⟩
  ·rw[h];by_cases hc:0<=f g/\acc.1<=f g
   ·rw[az hc];exact Or.inl ⟨0,aR,aR⟩
   ·rw[aq hc];exact Or.inr rfl
theorem Vz(gs:List (aQ bE))(o:gG)(proxy:Bool)(path:aj):(∃k,k<gs.length/\uo gs o proxy path=(k:Int))\/uo gs o proxy path= -1:=by
 rcases LB (pZ o proxy path) gs 0 (-1, -1)with ⟨k,hk,h⟩|h
 ·exact Or.inl ⟨k,hk,by unfold uo;rw[h,bz]⟩
 ·exact Or.inr h
def uq(base:Nat)(w:World)(m:Option (aQ bE))(e:Ending)(w':World):Prop :=
 Fr aS w w'/\match m with
 |none=>e=.returned (.tuple #[.agg eY,.bool false])
 |some g=>∃r:aQ Value,e=.returned (.tuple #[.agg r.cells.toArray,.bool true])/\r.Reads (dx base w') g/\∀u∈r.cells,u.oneCell'=true
theorem XY(name value:aj)(w:World)(hn:name.size<=140737488351232)(hv:value.size<=140737488351232) :
  aB 151 #[.agg #[.string name,.string value]] w fun e w'=>e=.returned (.bool (decide ((300:Int)<(name.size:Int)+(value.size:Int))))/\Fr aS w w':=by
 have kC:Fr aS w (w.alloc (.cells #[.string name,.string value] 171)):=(ae aS w).alloc _;go_enter func151,ntmps151;go_wp2;go_ret;exact⟨rfl,kC⟩
structure ez where
 dt:gG
 o:gG
 path:aj
 query:aj
 f_:Bool
 method:aj
 head:aj
 qh:Int
def ez.cells(p:ez):aZ:=[.bool p.dt.aG,.string p.dt.host,.int .i64 p.dt.port,.bool p.o.aG,.string p.o.host,.int .i64 p.o.port,.string p.path,.string p.query,.bool p.f_,.string p.method,.string p.head,.int .i64 p.qh]
def ez.lz(p q:ez):Bool:=p.dt.lz q.dt&&(p.o.lz q.o&&(p.path.toList==q.path.toList&&(p.query.toList==q.query.toList&&(p.f_==q.f_&&(p.method.toList==q.method.toList&&(p.head.toList==q.head.toList&&p.qh==q.qh))))))
theorem ez.xp(p q:ez):p.lz q=true↔p=q:=by
 obtain⟨a,d,g,i,j,k,l,m⟩:=p;obtain⟨a',d',g',i',j',k',l',m'⟩:=q;simp only[ez.lz,cy,dX,ez.mk.injEq,toList_inj,gG.xp]
def star:aH:=[42]
def abV:aH:=[97,117,116,104,111,114,105,122,97,116,105,111,110]
def ez.lets(m:aj)(f_:Bool)(p:ez):Bool:=p.method.toList==m.toList||(p.method.toList==star&&!f_)
def ez.nk(h:aj)(f_:Bool)(p:ez):Bool:=p.head.toList==h.toList||(p.head.toList==star&&(!f_&&h.toList !=abV))
def Zf(m:aj)(f_:Bool)(eB:List aj)(ps:List ez):Bool :=
 (rh m||ps.any (ez.lets m f_))&&eB.all fun h=>ps.any (ez.nk h f_)
structure rm where
 dt:gG
 o:gG
 path:aj
 query:aj
 method:aj
 eB:List ig
 f_:Bool
def rm.nt(r:rm)(ps:List ez):Bool:=Zf (jT r.method) r.f_ (yy r.eB) ps
def rm.needs(r:rm):Bool:=!r.dt.lz r.o&&!r.nt []
def ez.like(p q:ez):Bool:=({p with qh:=q.qh}:ez).lz q
def ez.alive(now:Int)(p:ez):Bool:=decide (now<p.qh)
def FH(b:List ez)(p:ez):List ez:=(b.filter fun q=>!p.like q)++[p]
def uN(b l:List ez)(now:Int):List ez :=
 let c:=(l.foldl FH b).filter (ez.alive now)
 c.drop (c.length-32)
def rm.UJ(r:rm)(now:Int)(p:ez):Bool:=p.alive now&&(p.dt.lz r.dt&&((p.o.lz r.o&&(p.path.toList==r.path.toList&&p.query.toList==r.query.toList))&&(p.f_||!r.f_)))
def jm(b:List ez)(r:rm)(now:Int):List ez:=b.filter (r.UJ now)
def mM(b:List ez)(r:rm)(now:Int):Bool:=!r.needs||r.nt (jm b r now)
theorem KS(b l:List ez)(now:Int):(uN b l now).length<=32:=by
 unfold uN;simp only[bM];omega
theorem UK(b:List ez)(p:ez):(FH b p).length<=b.length+1:=by
 unfold FH;have:=bW (fun q=>!p.like q) b;simp;omega
theorem KT:∀(l:List ez) (b:List ez),(l.foldl FH b).length<=b.length+l.length
 |[],b=>aR
 |p :: l,b=>by
  have h1:=KT l (FH b p);have h2:=UK b p;simp only[List.foldl_cons,List.length_cons];omega
def P_:Bs:=[117,115,101,114,110,97,109,101]
def Zl:Bs:=[117,114,105]
def P':Bs:=[114,101,115,112,111,110,115,101]
def nNc:Bs:=[110,99]
def CY:Bs:=[99,110,111,110,99,101]
def adD:Bs:=[68,105,103,101,115,116]
def pF(scheme:Int)(cD:Bool):Bs:=(if scheme=3 then Iu else yv)++(if cD then zz else [])
structure jg where
 scheme:Int
 aM:Bs
 bu:Bs
 cz:Bs
 cD:Bool
 eJ:Bs
 user:Bs
 uri:Bs
 Rn:Bs
 bS:Bs
 count:Bs
def qP(n v:Bs):jF×Bs:=((n,v),fX v)
def pP(n v:Bs):jF×Bs:=((n,v),v)
def jg.head(d:jg):List (jF×Bs):=[qP P_ d.user,qP wB d.aM,qP wC d.bu,qP Zl d.uri,qP P' d.Rn,pP zy (pF d.scheme d.cD)]
def jg.two(d:jg):List (jF×Bs):=if d.eJ.isEmpty then []else [pP KC d.eJ,pP nNc d.count]
def jg.cn(d:jg):List (jF×Bs):=if !d.eJ.isEmpty||d.cD then [qP CY d.bS]else []
def jg.op(d:jg):List (jF×Bs):=if d.cz.isEmpty then []else [qP mA d.cz]
def jg.zH(d:jg):List (jF×Bs):=d.head++(d.two++(d.cn++d.op))
def jg.fair(d:jg):Bool:=oo d.user&&(oo d.aM&&(oo d.bu&&(oo d.uri&&(oo d.Rn&&((!(!d.eJ.isEmpty||d.cD)||oo d.bS)&&(d.cz.isEmpty||oo d.cz))))))
def jg.text(d:jg):Bs:=adD++32 :: xW d.zH
theorem Gz(s cs:aj)(w:World)(hcs:cs.size<4294967281)(NA:∀b∈cs.data.toList,b.toNat<128) :
  aB 214 #[.string s,.string cs] w fun e w'=>e=.returned (.string ⟨(s.data.toList.dropWhile (cs.data.toList.contains ·)).toArray⟩)/\Fr aS w w':=by
 refine(Any.strings_TrimLeft_laid YV af s cs w hcs (fun j b hj=>NA b (bQ hj))).mono ?_;rintro e w'⟨he,hb⟩;exact⟨he,fx hb⟩
theorem CZ{x:Int}(h: -9223372036854775808<=x)(h2:x<9223372036854775808):IntKind.i64.wrap x=x:=by
 simp[IntKind.wrap,IntKind.signed,IntKind.bits];omega
def adF:aj:=⟨Uv.toArray⟩
theorem Rp:∀b∈adF.data.toList,b.toNat<128:=dw
def II(s:aj)(i:Nat):Nat:=(mr (s.data.toList.drop i)).length
def TL(s:aj)(i:Nat):Nat:=(nM (s.data.toList.drop i)).length
theorem ahL(s:aj)(h:i<=s.size):i+II s i+TL s i<=s.size:=by
 have h1:=pV FE (s.data.toList.drop i);have h2:=pV lz ((s.data.toList.drop i).dropWhile FE);unfold II TL mr nM;simp at h1;omega
theorem drop_take{p:UInt8->Bool}(l:Bs)(i:Nat):l.drop (i+((l.drop i).takeWhile p).length)=(l.drop i).dropWhile p:=by
 rw[<-eD, <-oT]
theorem zL(s:aj)(i:Nat):s.data.toList.drop (i+II s i)=(s.data.toList.drop i).dropWhile FE:=drop_take _ _
theorem DG(s:aj)(i:Nat):s.data.toList.drop (i+II s i+TL s i)=sT (s.data.toList.drop i):=by
 unfold TL nM sT;rw[<-zL];exact drop_take _ _
theorem zM(s:aj)(i:Nat):(s.extract i s.size).data.toList=s.data.toList.drop i:=by
 rw[Lib.extract_data,aD aR]
theorem Zo(s:aj)(i:Nat):s.extract i (i+II s i+TL s i)=⟨(mr (s.data.toList.drop i)++nM (s.data.toList.drop i)).toArray⟩:=by
 apply Go.WideShapes.bytes_inj;rw[Lib.extract_data];show _=mr (s.data.toList.drop i)++nM (s.data.toList.drop i);have e1:mr (s.data.toList.drop i)++(nM (s.data.toList.drop i)++sT (s.data.toList.drop i))=s.data.toList.drop i:=by
  unfold mr nM sT;rw[List.takeWhile_append_dropWhile,List.takeWhile_append_dropWhile]
 have e2:i+II s i+TL s i-i=(mr (s.data.toList.drop i)++nM (s.data.toList.drop i)).length:=by
  unfold II TL;rw[aK];omega
 have key:∀(A B Z D:Bs),A++(B++Z)=D->D.take (A++B).length=A++B:=by
  intro A B Z D h;subst h;rw[<-cN,List.take_left' rfl]
 rw[e2];exact key _ _ _ _ e1
def mN(c i:Nat)(s:aj)(w:World)(e:Ending)(w':World):Prop :=
 Fr (one c) w w'/\match singleR (s.data.toList.drop i)with
  |some q=>e=.returned (.tuple #[.string ⟨q.1.toArray⟩,.bool true])/\∃j,j<=s.size/\dz w' c s j/\s.data.toList.drop j=q.2
  |none=>e=.returned (.tuple #[.string ⟨#[]⟩,.bool false])/\dz w' c s i
theorem mN.hit{q:Bs×Bs}(h:singleR (s.data.toList.drop i)=some q)(hf:Fr (one c) w w')(hj:j<=s.size)(hc:dz w' c s j)(hd:s.data.toList.drop j=q.2) :
  mN c i s w (.returned (.tuple #[.string ⟨q.1.toArray⟩,.bool true])) w':=by
 refine⟨hf,?_⟩;rw[h];exact⟨rfl,j,hj,hc,hd⟩
theorem mN.no(h:singleR (s.data.toList.drop i)=none)(hf:Fr (one c) w w')(hc:dz w' c s i) :
  mN c i s w (.returned (.tuple #[.string ⟨#[]⟩,.bool false])) w':=by
 refine⟨hf,?_⟩;rw[h];exact⟨rfl,hc⟩
theorem Fr.nv(h:Fr aS w w'):Fr S w w':=h.mono (fun _ _ h=>absurd h id)
theorem NN(b c i:Nat)(s:aj)(v:Value)(w:World)(hr:iR w b c s v)(h:dz w c s i)(hs:s.size<100000)(hi:i<=s.size) :
  aB 169 #[.pointer (some ⟨b,0,none⟩)] w (mN c i s w):=by
 have hm:s.size<=maxLen:=ft;have q0:=hr.cell0;have q1:=hr.ib;have hle:=ahL s hi;have HD1:=O (zL s i);have HD2:=O (DG s i);have HT:=O (Zo s i);have HR:=O (show singleR (s.data.toList.drop i)=if decide (0<II s i)&&oq (s.data.toList.drop (i+II s i+TL s i))then some (mr (s.data.toList.drop i)++nM (s.data.toList.drop i),fb (s.data.toList.drop (i+II s i+TL s i)))else none by
  unfold singleR;rw[DG];have:(!(mr (s.data.toList.drop i)).isEmpty)=decide (0<II s i):=by
   unfold II;cases mr (s.data.toList.drop i)<;>simp
  rw[this])
 have T1:=O (show∀U,aB 214 #[.string (s.extract i s.size),.string adF] U fun e w'=>e=.returned (.string (s.extract (i+II s i) s.size))/\Fr aS U w' from fun U=>by
  have e1:s.extract (i+II s i) s.size=⟨((s.extract i s.size).data.toList.dropWhile (adF.data.toList.contains ·)).toArray⟩:=by
   apply Go.WideShapes.bytes_inj;rw[zM,zM,zL];rfl
  rw[e1];exact Gz _ _ U ag Rp)
 have T2:=O (show∀U,aB 214 #[.string (s.extract (i+II s i) s.size),.string ⟨#[61]⟩] U fun e w'=>e=.returned (.string (s.extract (i+II s i+TL s i) s.size))/\Fr aS U w' from fun U=>by
  have e1:s.extract (i+II s i+TL s i) s.size=⟨((s.extract (i+II s i) s.size).data.toList.dropWhile ((⟨#[61]⟩:aj).data.toList.contains ·)).toArray⟩:=by
   apply Go.WideShapes.bytes_inj;rw[zM,zM,zL,DG];rfl
  rw[e1];exact Gz _ _ U ag ag)
 generalize hN:II s i=N at *
 generalize hM:TL s i=M at *
 clear hN hM;generalize mr (s.data.toList.drop i)++nM (s.data.toList.drop i)=TX at *
 have hJ1:i<=i+N:=ab;have hJ2:i+N<=i+N+M:=ab;have hJN:i+N-i=N:=ab;have hLM:i+N+M-(i+N)=M:=ab;generalize hL:i+N+M=L at *
 generalize hJ:i+N=J at *
 have E1:=O hJ;have E2:=O hL;clear hL hJ;have HNM:=O (And.intro hJN hLM);clear hJN hLM;have ll:(s.extract i s.size).size=s.size-i:=by rw[gI];omega
 have lF:(s.extract J s.size).size=s.size-J:=by rw[gI];omega
 have UO:(s.extract L s.size).size=s.size-L:=by rw[gI];omega
 have W1:=O (show IntKind.i64.wrap (((s.size-i:Nat):Int)-((s.size-J:Nat):Int))=(N:Int)by
  have e:=HNM.o.1;rw[show(((s.size-i:Nat):Int)-((s.size-J:Nat):Int))=(N:Int)from ab];exact CZ ab ab)
 have W2:=O (show IntKind.i64.wrap (((s.size-J:Nat):Int)-((s.size-L:Nat):Int))=(M:Int)by
  have e:=HNM.o.2;rw[show(((s.size-J:Nat):Int)-((s.size-L:Nat):Int))=(M:Int)from ab];exact CZ ab ab)
 have W3:=O (show IntKind.i64.wrap ((i:Int)+(N:Int))=(J:Int)by
  have e:=HNM.o.1;rw[show((i:Int)+(N:Int))=(J:Int)from ab];exact CZ ab ab)
 have W4:=O (show IntKind.i64.wrap ((J:Int)+(M:Int))=(L:Int)by
  have e:=HNM.o.2;rw[show((J:Int)+(M:Int))=(L:Int)from ab];exact CZ ab ab)
 have Qb:=O (show∀U,Fr aS w U->iR U b c s v/\dz U c s i from fun U hU=>⟨hr.fr hU id,h.fr hU id⟩);go_enter func169,ntmps169;go_wp2_with fail
 refine(Bb c s i w h).mono ?_;rintro e w0⟨rfl,rfl⟩;have b1:(0:Int)<=(i:Int):=ab;have b2:(i:Int)<=(s.size:Int):=ab;go_wp2_with fail
 go_region_held3 (fun U=>U.cell? ⟨b,1,none⟩=some (.string s)) ((refine(Qb.o _ ?_).1.ib;repeat(first|exact ae _ _|apply bB|apply aA|refine bF ?_ jH))) ((go_at_call 214;refine(T1.o _).mono ?_;rintro e v1 ⟨rfl,FC⟩))
 rw[W1.o];obtain⟨zg,pK⟩:=Qb.o v1 (by repeat(first|exact ae _ _|apply bB|apply aA|apply dG|refine bF ?_ jH));have ln:=O (show Fr aS w v1 from(by repeat(first|exact ae _ _|apply bB|apply aA|apply dG|refine bF ?_ jH)));clear FC;have q1:=zg.ib;have b3:(0:Int)<=(J:Int):=ab;have b4:(J:Int)<=(s.size:Int):=ab;have w3:=W3.o;go_wp2_with fail
 go_region_held3 (fun U=>U.cell? ⟨b,1,none⟩=some (.string s)) ((refine(Qb.o _ ?_).1.ib;repeat(first|exact ae _ _|exact ln.o|apply bB|apply aA|refine bF ?_ jH))) ((go_at_call 214;refine(T2.o _).mono ?_;rintro e v2 ⟨rfl,hv2⟩))
 rw[W2.o];obtain⟨oF,sR⟩:=Qb.o v2 (by repeat(first|exact ae _ _|exact ln.o|apply bB|apply aA|apply dG|refine bF ?_ jH));have fU:=O (show Fr aS w v2 from(by repeat(first|exact ae _ _|exact ln.o|apply bB|apply aA|apply dG|refine bF ?_ jH)));clear hv2 q1 zg pK;have q0:=oF.cell0;have q1:=oF.ib;have w4:=W4.o;go_wp2_with fail
 refine(yu c s i L v2 sR hm).mono ?_;rintro e v3⟨rfl,uG,iz⟩;rw[uP hle]at uG;have rP:=oF.one sR iz;have il:=O (fU.o.nv.trans iz);have q0:=rP.cell0;have q1:=rP.ib;by_cases Qc:0<N
 ·have n0:(0:Int)<(N:Int):=ab;rw[bJ Qc,jS]at HR;go_wp2_with fail
  refine(DF b c L s v v3 rP uG hm hle).mono ?_;rintro e v4⟨rfl,uD,kS⟩;have wh:=rP.one uG kS;have q0:=wh.cell0;have q1:=wh.ib;have C0:=O (oY s L);have hbl:=yC (s:=s) hle;cases ho:oq (s.data.toList.drop L)
  ·rw[ho]at HR;go_wp2_with fail
   refine(yu c s _ i v4 uD hm).mono ?_;rintro e v5⟨rfl,uE,lN⟩;rw[uP hi]at uE;go_wp2;go_ret2;exact mN.no (by rw[HR.o];rfl) ((il.o.trans kS).trans lN) uE
  ·rw[ho]at HR;have b5:(i:Int)<=(L:Int):=ab;have b6:(L:Int)<=(s.size:Int):=ab;have b7:(0:Int)<=(L:Int):=ab;go_wp2;go_ret2;rw[HT.o];exact mN.hit (q:=(TX,fb (s.data.toList.drop L))) (by rw[HR.o];rfl) (il.o.trans kS) hbl uD C0.o
 ·have n0:¬(0:Int)<(N:Int):=ab;rw[bj Qc,kI]at HR;go_wp2_with fail
  refine(yu c s _ i v3 uG hm).mono ?_;rintro e v5⟨rfl,uE,lN⟩;rw[uP hi]at uE;go_wp2;go_ret2;exact mN.no (by rw[HR.o];rfl) (il.o.trans lN) uE
