/- Askd, AskLaw, Rdr1. -/
import Derived.Test.YtjdmjbdkdmbaiaaGreatDoorPk14
set_option maxRecDepth 100000
set_option maxHeartbeats 16000000
set_option linter.unusedSimpArgs false
namespace Go.Proofs.YtjdmjbdkdmbaiaaGreatDoor
open Go.RowKit Go.Sort
abbrev dW:=ByteArray×ByteArray
def dW.cells(p:dW):List Value:=[.string p.1,.string p.2]
def kU(w:World)(v:Value)(ps:List dW):Prop:=aN 2 w v (ps.map dW.cells)
def nc(s:ByteArray):ByteArray:=⟨(iK s.data.toList).toArray⟩
def pK(ps:List dW):List ByteArray:=(ps.filter fun p=>!gI p.1 p.2).map fun p=>nc p.1
def CS(ps:List dW):List ByteArray:=(ps.filter fun p=>gI p.1 p.2).map fun p=>nc p.1
def nB(ps:List dW):Nat:=((ps.filter fun p=>gI p.1 p.2).map fun p=>p.2.size).sum
def BG(ps:List dW):List ByteArray:=pK ps++(if 1024<nB ps then CS ps else [])
def Y3(ps:List dW):List (List UInt8):=Lib.compact (oa ((BG ps).map fun s=>s.data.toList))
def rQ(ps:List dW):List ByteArray:=(Y3 ps).map fun l=>⟨l.toArray⟩
theorem BH(ps:List dW)(p:dW)(h:gI p.1 p.2=false):pK (ps++[p])=pK ps++[nc p.1]/\CS (ps++[p])=CS ps/\nB (ps++[p])=nB ps:=by
 unfold pK CS nB;simp[List.filter_append,h]
theorem zr(ps:List dW)(p:dW)(h:gI p.1 p.2=true):pK (ps++[p])=pK ps/\CS (ps++[p])=CS ps++[nc p.1]/\nB (ps++[p])=nB ps+p.2.size:=by
 unfold pK CS nB;simp[List.filter_append,h]
theorem TH(ps:List dW):(pK ps).length<=ps.length:=by unfold pK;rw[List.length_map];exact List.length_filter_le _ _
theorem Y4(ps:List dW):(CS ps).length<=ps.length:=by unfold CS;rw[List.length_map];exact List.length_filter_le _ _
theorem DE{a b:ByteArray}(h:gI a b=true):b.size<=128:=by
 unfold gI at h;split at h
 ·cases h
 ·omega
theorem WB:∀ps:List dW,nB ps<=128*ps.length
 |[]=>by simp[nB]
 |p :: ps=>by
  have ih:=WB ps;unfold nB at ih ⊢;rw[List.filter_cons];split
  ·rename_i h;have:=DE h;simp only[List.map_cons,List.sum_cons,List.length_cons];omega
  ·simp only[List.length_cons];omega
theorem Ky{α:Type}{l:List α}{k:Nat}{x:α}(h:l[k]?=some x):l.take (k+1)=l.take k++[x]:=by
 rw[List.take_add_one,h];rfl
def pL(u v:Value):Prop:=∀k,u.ownBlock=some k->v.ownBlock≠some k
def afD(ps:List dW)(w:World)(out plain n i:Value)(wr:World):Prop :=
 ∃k:Nat,k<=ps.length/\i=.int .i64 k/\n=.int .i64 (nB (ps.take k))/\Strs w.heap.size wr out (pK (ps.take k))/\Strs w.heap.size wr plain (CS (ps.take k))/\pL out plain/\Fr ay w wr
theorem Strs.lt{base:Nat}{w:World}{v:Value}{ss:List ByteArray}(h:Strs base w v ss):∀k,v.ownBlock=some k->base<=k/\k<w.heap.size:=World.ownsRow.lt h
theorem Strs.kept{base:Nat}{w w':World}{v:Value}{ss:List ByteArray}{row:Option Nat}(h:Strs base w v ss)(hg:w.grownBy w' row)(hne:∀k,row=some k->v.ownBlock≠some k):Strs base w' v ss:=by
 refine World.ownsRow.kept h hg ?_;cases hv:v.ownBlock with
 |none=>exact Or.inl rfl
 |some k=>exact Or.inr fun e=>hne k e.symm hv
theorem pL.sep{base:Nat}{w:World}{u v v2:Value}{ss:List ByteArray}(h:pL u v)(hs:Sep w v v2)(hu:Strs base w u ss):pL u v2:=by
 intro k hk e;rcases hs with hs|hs
 ·rw[hs]at e;exact h k hk e
 ·have h1:=hs k e;have h2:=(hu.lt k hk).2;omega
theorem pL.symm{u v:Value}(h:pL u v):pL v u:=fun k hv hu=>h k hu hv
theorem NK(ss:List ByteArray):ss.map Value.string=(ss.map fun s=>s.data.toList).map encStr:=by
 rw[List.map_map];rfl
def NL(ls:List (List UInt8)):List ByteArray:=ls.map fun l=>⟨l.toArray⟩
theorem BI(ls:List (List UInt8)):(NL ls).map Value.string=ls.map encStr:=by unfold NL;rw[List.map_map];rfl
theorem Ae(base:Nat)(v:Value)(ss:List ByteArray)(w:World)(h:Strs base w v ss)(hl:ss.length<1000000) :
  Calls Tryz.prog 208 #[v] w fun e w'=>e=.returned (.tuple #[])/\Strs base w' v (NL (oa (ss.map fun s=>s.data.toList)))/\w.grownBy w' v.ownBlock:=by
 have h2:w.ownsRow base 9 1 v (ss.map fun s=>s.data.toList).length ((ss.map fun s=>s.data.toList).map encStr):=by
  rw[<-NK,List.length_map];exact h
 refine(NH base v _ w h2 (by rw[List.length_map];exact hl)).mono ?_;rintro e w'⟨he,ho,hg⟩;refine⟨he,?_,hg⟩;unfold Strs;rw[BI,show(NL (oa (ss.map fun s=>s.data.toList))).length=(ss.map fun s=>s.data.toList).length from by unfold NL oa;simp];exact ho
theorem tz(base:Nat)(v:Value)(ls:List (List UInt8))(w:World)(h:Strs base w v (NL ls))(hl:ls.length<1000000) :
  Calls Tryz.prog 209 #[v] w fun e w'=>∃u,e=.returned u/\Strs base w' u (NL (Lib.compact ls))/\w.grownBy w' v.ownBlock:=by
 have e1:(NL ls).length=ls.length:=by unfold NL;simp
 have h2:w.ownsRow base 9 1 v ls.length (ls.map encStr):=by
  rw[<-BI, <-e1];exact h
 refine(DC base v ls w h2 hl).mono ?_;rintro e w'⟨u,he,ho,hg⟩;refine⟨u,he,?_,hg⟩;unfold Strs;rw[BI,show(NL (Lib.compact ls)).length=(Lib.compact ls).length from by unfold NL;simp];exact ho
theorem Af(ps:List dW)(v:Value)(w:World)(h:kU w v ps)(hl:ps.length<100000)(hz:∀p∈ps,p.1.size<100000/\p.2.size<100000) :
  Calls Tryz.prog 148 #[v] w fun e w'=>∃u,e=.returned u/\Strs w.heap.size w' u (rQ ps)/\Fr ay w w':=by
 obtain⟨av,cv,hv⟩:=h.form;rw[List.length_map]at hv;have HZ:=O hz;clear hz;subst hv;go_enter Tryz.func148,Tryz.ntmps148;go_wp2;go_loopw[3,4,5,11] (afD ps w) (fun _ _ _ i _=>ps.length-(intOf i).toNat)
 case atStart=>exact⟨0,Nat.zero_le _,rfl,rfl,Strs.nil _ _,Strs.nil _ _,fun k e=>by simp[Value.ownBlock]at e,Fr.refl _ _⟩
 case round =>
  obtain⟨k,hk,rfl,rfl,ho,hp,Y5,aW⟩:=hrel;obtain⟨ao,co,Kz⟩:=ho.form;obtain⟨ap,cp,hpe⟩:=hp.form;have hn:=WB (ps.take k);rw[List.length_take]at hn;have MP:=TH (ps.take k);have zd:=Y4 (ps.take k);rw[List.length_take]at MP zd;by_cases cG:k<ps.length
  ·have lf:(k:Int)<(ps.length:Int):=by omega
   have bC:=O (List.getElem?_eq_getElem cG);have mz:=HZ.out _ (List.getElem_mem cG);generalize ps[k]=p at bC mz;obtain⟨nm,vl⟩:=p;obtain⟨iy,gU⟩:=mz;have TI:=O (Ky bC.out);have gG:aN 2 wr (.slice av ps.length cv) (ps.map dW.cells):=aN.bu h aW;rcases gG.2 with ⟨_,_,_,e,_⟩|⟨bk,of,c,bt,h1,h2,h3,h4⟩
   ·have:ps.length=0:=by have:=congrArg List.length e;simpa using this
    omega
   rw[List.length_map]at bt h1;cases bt;unfold maxLen at h2;have hcell:=h4 k (dW.cells (nm,vl)) (by rw[List.getElem?_map,bC.out];rfl);have c0:wr.cell? ⟨bk,of+k*2,none⟩=some (.string nm):=hcell 0 (.string nm) rfl;have c1:=hcell 1 (.string vl) rfl;clear hcell h4 gG;obtain⟨wb,eQ⟩:∃wb,wb=wr.alloc (.cells #[.string nm,.string vl] 126):=⟨_,rfl⟩;have fa:Fr ay wr wb:=by rw[eQ];exact(Fr.refl ay wr).alloc _
   have gZ:wb.heap[wr.heap.size]?=some (.cells #[.string nm,.string vl] 126 (0,0)):=by rw[eQ];exact af _ _
   have HC:=O (show∀U,Fr ay wb U->U.cell? ⟨wr.heap.size,0,none⟩=some (.string nm)/\U.cell? ⟨wr.heap.size,1,none⟩=some (.string vl)from fun U hU=>by
    have j1:=hU.keep gZ (fun h=>h);simp[World.cell?,j1])
   have lq:=O eQ;have gS:=O (aW.trans fa);have HO:=O (ho.fr fa (fun _ h=>h.elim));have HP:=O (hp.fr fa (fun _ h=>h.elim));have am7:=O (show∀j,(Value.slice ap (CS (ps.take k)).length cp).ownBlock=some j->j<wr.heap.size from fun j hj=>(hp.lt j (by rw[hpe];exact hj)).2);clear eQ fa gZ ho hp aW;go_wp2_with fail
   rw[<-lq.out];refine(lI nm wb (by omega)).mono ?_;rintro e u1⟨rfl,bt⟩;obtain⟨k0,k1⟩:=HC.out u1 bt;have gV:=O bt;clear bt c0 c1;go_wp2_with fail
   refine(Kv nm vl u1 (by omega) (by omega)).mono ?_;rintro e u2⟨rfl,bq⟩;obtain⟨k2,k3⟩:=HC.out u2 (gV.out.trans bq);have dk:=O ((gS.out.trans gV.out).trans bq);have tA:=gV.out.trans bq;have K3A:=O (show∀o:Obj,(u2.alloc o).cell? ⟨wr.heap.size,1,none⟩=some (.string vl)from fun o=>(HC.out _ (tA.alloc o)).2);have lr:=HO.out.fr tA (fun _ h=>h.elim);have vR:=HP.out.fr tA (fun _ h=>h.elim)
   have qV:w.heap.size<=u2.heap.size:=dk.out.size;rw[Kz]at lr Y5;rw[hpe]at vR Y5;clear bq tA k0 k1;have HLA:=O (show(⟨(iK nm.data.toList).toArray⟩:ByteArray)=nc nm from rfl);rw[HLA.out];generalize hla:nc nm=la at *
   have HE:=O hla;clear hla;cases NM:gI nm vl
   ·obtain⟨s1,s2,s3⟩:=BH (ps.take k) (nm,vl) NM;rw[<-TI.out,HE.out]at s1;rw[<-TI.out]at s2 s3;have S1:=O s1;have S2:=O s2;have S3:=O s3;clear s1 s2 s3 NM;go_wp2_with (at_builtin;refine vQ rfl _ _ rfl w.heap.size (.slice ao _ co) (pK (ps.take k)) rfl (by apply Strs.alloc;exact lr) ⟨u2.heap.size,0,none⟩ 1 la rfl (eo _ _ _ _) (by omega) (by simp;omega) ?_;intro v' w3 cz wZ NN)
    have Y6:Strs w.heap.size w3 (.slice ap (CS (ps.take k)).length cp) (CS (ps.take k)):=(vR.alloc _).kept wZ (fun j hj=>Y5 j hj);have Y7:pL v' (.slice ap (CS (ps.take k)).length cp):=(pL.sep Y5.symm NN (vR.alloc _)).symm;have dV:=O ((dk.out.alloc (.cells #[.string la] 9)).cK wZ (fun j hj=>(lr.block j hj)));go_roundw
    case rel=>exact⟨k+1,by omega,by go_num,by rw[S3.out],by rw[S1.out];exact cz,by rw[S2.out];exact Y6,Y7,dV.out⟩
    case measure=>simp[intOf];omega
   ·obtain⟨s1,s2,s3⟩:=zr (ps.take k) (nm,vl) NM;have TJ:=DE NM;rw[<-TI.out,HE.out]at s2;rw[<-TI.out]at s1 s3;have S1:=O s1;have S2:=O s2;have S3:=O s3;clear s1 s2 s3 NM
    go_wp2_with (at_builtin;refine vQ rfl _ _ rfl w.heap.size (.slice ap _ cp) (CS (ps.take k)) rfl (by apply Strs.alloc;exact vR) ⟨u2.heap.size,0,none⟩ 1 la rfl (eo _ _ _ _) (by omega) (by simp;omega) ?_;intro v' w3 cz wZ NN;have k4:w3.cell? ⟨wr.heap.size,1,none⟩=some (.string vl):=wZ.cell (K3A.out _) (fun e=>absurd (am7.out _ e.symm) (Nat.lt_irrefl _)))
    have rR:Strs w.heap.size w3 (.slice ao (pK (ps.take k)).length co) (pK (ps.take k)):=(lr.alloc _).kept wZ (fun j hj hj2=>Y5 j hj2 hj);have Y7:pL (.slice ao (pK (ps.take k)).length co) v':=pL.sep Y5 NN (lr.alloc _);have dV:=O ((dk.out.alloc (.cells #[.string la] 9)).cK wZ (fun j hj=>(vR.block j hj)));go_roundw
    case rel=>exact⟨k+1,by omega,by go_num,by rw[S3.out];go_num,by rw[S1.out];exact rR,by rw[S2.out];exact cz,Y7,dV.out⟩
    case measure=>simp[intOf];omega
  ·have lf:¬(k:Int)<(ps.length:Int):=by omega
   have Kw:ps.take k=ps:=List.take_of_length_le (by omega);rw[Kw]at ho hp Kz hpe hn MP zd ⊢;clear Kw;subst Kz hpe;have zg:w.heap.size<=wr.heap.size:=aW.size;obtain⟨N,hN⟩:∃N,N=nB ps:=⟨_,rfl⟩;have HR1:=O (show 1024<N->BG ps=pK ps++CS ps from fun e=>by unfold BG;rw[<-hN,if_pos e]);have TK:=O (show¬1024<N->BG ps=pK ps from fun e=>by unfold BG;rw[<-hN,if_neg e,List.append_nil]);rw[<-hN]at hn ⊢;clear hN
   by_cases wJ:1024<N
   ·have HR:=O (HR1.out wJ);have am8:(1024:Int)<(N:Int):=by omega
    go_wp2_with (at_builtin;refine DD rfl _ _ rfl w.heap.size _ (pK ps) rfl ho (.slice ap (CS ps).length cp) (CS ps) rfl hp.at (by omega) (by omega) ?_;intro v2 w2 lr wG)
    rw[<-HR.out]at lr;have dk:=O (aW.cK wG (fun j hj=>ho.block j hj));have qW:(BG ps).length<1000000:=by rw[HR.out,List.length_append];omega
    clear wG ho hp Y5;go_wp2_with fail
    refine(Ae w.heap.size v2 (BG ps) w2 lr qW).mono ?_;rintro e w3⟨rfl,rR,wZ⟩;have dV:=O (dk.out.cK wZ (fun j hj=>lr.block j hj));go_wp2_with fail
    refine(tz w.heap.size v2 _ w3 rR (by unfold oa;simpa using qW)).mono ?_;rintro e w4⟨u,rfl,MQ,Ag⟩;have fu:=O (dV.out.cK Ag (fun j hj=>rR.block j hj));go_wp2;go_ret;exact⟨u,rfl,MQ,fu.out⟩
   ·have HR:=O (TK.out wJ);have am8:¬(1024:Int)<(N:Int):=by omega
    rw[<-HR.out]at ho;have qW:(BG ps).length<1000000:=by rw[HR.out];omega
    rw[<-HR.out];go_wp2_with fail
    refine(Ae w.heap.size _ (BG ps) wr ho qW).mono ?_;rintro e w3⟨rfl,rR,wZ⟩;have dV:=O (aW.cK wZ (fun j hj=>ho.block j hj));go_wp2_with fail
    refine(tz w.heap.size _ _ w3 rR (by unfold oa;simpa using qW)).mono ?_;rintro e w4⟨u,rfl,MQ,Ag⟩;have fu:=O (dV.out.cK Ag (fun j hj=>rR.block j hj));go_wp2;go_ret;exact⟨u,rfl,MQ,fu.out⟩
open Go.RowKit
def I7(t:Bs):Prop:=∃n m:Bs,t=n++m/\n≠ []/\n.all zp=true/\m.all eN=true
def I8(p:ew):Prop:=uN p.1=true/\Bx p.2=true
structure iI.Ok (x:iI):Prop where
 scheme:uN x.scheme=true
 token:x.token=[]\/(x.params=[]/\I7 x.token)
 xc:x.params.length<=16
 tB:∀p∈x.params,I8 p
 apart:∀(i j:Nat) p q,i<j->x.params[i]?=some p->x.params[j]?=some q->bf p.1 q.1=false
theorem taken(p:UInt8->Bool):∀l:Bs,(l.takeWhile p).all p=true
 |[]=>rfl
 |c :: l=>by
  cases h:p c
  ·rw[List.takeWhile_cons_of_neg (by simp[h])];rfl
  ·rw[List.takeWhile_cons_of_pos h,List.all_cons,h,taken p l];rfl
theorem xG{r:Bs}(h:(dB r).isEmpty=false):uN (dB r)=true:=by
 unfold uN;rw[h];have:(dB r).all cP=true:=taken cP r;rw[this];rfl
theorem xH:∀(f:Nat) (r a z:Bs),r.length<=f->pq r=some (a,z)->a.all iL=true
 |0,r,a,z,hf,h=>by
  have:r=[]:=List.eq_nil_of_length_eq_zero (by omega);subst this;rw[pq.eq_def]at h;simp at h
 |f+1,[],a,z,hf,h=>by rw[pq.eq_def]at h;simp at h
 |f+1,x :: r,a,z,hf,h=>by
  rw[pq.eq_def]at h;simp only at h;by_cases h1:(x==34)=true
  ·rw[if_pos h1]at h;cases h;rfl
  ·rw[if_neg h1]at h;by_cases h2:(x==92)=true
   ·rw[if_pos h2]at h;cases r with
    |nil=>simp at h
    |cons y r' =>
     simp only at h;by_cases h3:iL y=true
     ·rw[if_pos h3]at h;cases hq:pq r' with
      |none=>rw[hq]at h;simp at h
      |some p =>
       rw[hq]at h;simp at h;obtain⟨rfl,rfl⟩:=h;have:=xH f r' p.1 p.2 (by simp at hf;omega) hq;rw[List.all_cons,h3,this];rfl
     ·rw[if_neg h3]at h;simp at h
   ·rw[if_neg h2]at h;by_cases h3:iL x=true
    ·rw[if_pos h3]at h;cases hq:pq r with
     |none=>rw[hq]at h;simp at h
     |some p =>
      rw[hq]at h;simp at h;obtain⟨rfl,rfl⟩:=h;have:=xH f r p.1 p.2 (by simp at hf;omega) hq;rw[List.all_cons,h3,this];rfl
    ·rw[if_neg h3]at h;simp at h
theorem KA{r a z:Bs}(h:kn r=some (a,z)):Bx a=true:=by
 unfold kn at h;unfold Bx;split at h
 ·cases r with
  |nil=>cases h
  |cons c t =>
   have h':(if c==34 then pq t else none)=some (a,z):=h;by_cases hc:(c==34)=true
   ·rw[if_pos hc]at h';have:=xH _ t a z (Nat.le_refl _) h';rw[show jk a=true from this,Bool.or_true]
   ·rw[if_neg hc]at h';cases h'
 ·rename_i hw;cases h;rw[xG (by simpa using hw)];rfl
theorem Ai{ps:List ew}{r:Bs}{p:ew}{z:Bs}(h:fK ps r=.ok (p,z)):I8 p/\nY ps p.1=false/\ps.length≠16:=by
 unfold fK at h;by_cases hn:gi r=true
 ·rw[if_neg (by simp[hn])]at h;cases hv:kn (iY r)with
  |none=>rw[hv]at h;cases h
  |some q =>
   rw[hv]at h;simp only at h;split at h
   ·cases h
   rename_i ht;split at h
   ·cases h
   rename_i hk;cases h;exact⟨⟨xG (vM hn),KA (a:=q.1) (z:=q.2) hv⟩,by simpa using ht,hk⟩
 ·rw[if_pos (by simpa using hn)]at h;cases h
structure pO (ps:List ew):Prop where
 xc:ps.length<=16
 tB:∀p∈ps,I8 p
 apart:∀(i j:Nat) p q,i<j->ps[i]?=some p->ps[j]?=some q->bf p.1 q.1=false
theorem pO.nil:pO []:=⟨by simp,by simp,by simp⟩
theorem pO.snoc{ps:List ew}{p:ew}(h:pO ps)(hp:I8 p)(ht:nY ps p.1=false)(hl:ps.length≠16):pO (ps++[p]):=by
 refine⟨?_,?_,?_⟩
 ·have:=h.xc;simp;omega
 ·intro q hq;rcases List.mem_append.1 hq with g|g
  ·exact h.tB q g
  ·simp at g;subst g;exact hp
 ·intro i j q q' hij hi hj;have Wz:=(List.getElem?_eq_some_iff.1 hj).1;simp at Wz;by_cases hjl:j<ps.length
  ·rw[List.getElem?_append_left hjl]at hj;rw[List.getElem?_append_left (by omega)]at hi;exact h.apart i j q q' hij hi hj
  ·have e:j=ps.length:=by omega
   subst e;rw[List.getElem?_append_left (by omega)]at hi;simp at hj;subst hj;unfold nY at ht;rw[List.any_eq_false]at ht;simpa using ht q (List.mem_of_getElem? hi)
theorem xI:∀(f:Nat) (ps:List ew) (r:Bs) (q:List ew×Bs),pO ps->du f ps r=.ok q->pO q.1
 |0,ps,r,q,ho,h=>by rw[du]at h;cases h;exact ho
 |f+1,ps,r,q,ho,h=>by
  rw[du]at h;cases hp:fK ps r with
  |error e=>rw[hp]at h;cases h
  |ok p =>
   rw[hp]at h;obtain⟨p,r1⟩:=p;obtain⟨h1,h2,h3⟩:=Ai hp;have FJ:=ho.snoc h1 h2 h3;simp only at h;split at h
   ·split at h
    ·exact xI f _ _ q FJ h
    ·cases h;exact FJ
   ·cases h
theorem Ge{r t z:Bs}(h:singleR r=some (t,z)):I7 t:=by
 unfold singleR at h;split at h
 ·rename_i hc;cases h;simp only[Bool.and_eq_true,Bool.not_eq_true']at hc;refine⟨_,_,rfl,fun e=>?_,?_,?_⟩
  ·rw[e]at hc;cases hc.1
  ·exact taken zp r
  ·exact taken eN _
 ·cases h
theorem I9{k:Nat}{r:Bs}{x:iI}{z:Bs}(h:j9 k r=.ok (x,z)):x.Ok/\k≠8:=by
 unfold j9 at h;split at h
 ·cases h
 rename_i hw;have hw':=xG (show(dB r).isEmpty=false by simpa using hw);split at h
 ·cases h
 rename_i hk;refine⟨?_,hk⟩;split at h
 ·cases h;exact⟨hw',Or.inl rfl,by simp,by simp,by simp⟩
 split at h
 ·cases h
 split at h
 ·rename_i q hq;cases h;exact⟨hw',Or.inr ⟨rfl,Ge (t:=q.1) (z:=q.2) hq⟩,by simp,by simp,by simp⟩
 ·split at h
  ·cases h
  ·rename_i q hq;cases h;have:=xI _ _ _ _ pO.nil hq;exact⟨hw',Or.inl rfl,this.xc,this.tB,this.apart⟩
theorem Aj:∀(f:Nat) (acc:List iI) (r:Bs) (l:List iI),(∀x∈acc,x.Ok)->acc.length<=8->eP f acc r=.ok l->(∀x∈l,x.Ok)/\l.length<=8
 |0,acc,r,l,ha,hl,h=>by rw[eP]at h;cases h;exact⟨ha,hl⟩
 |f+1,acc,r,l,ha,hl,h=>by
  rw[eP]at h;split at h
  ·cases h;exact⟨ha,hl⟩
  ·cases ho:j9 acc.length (dN r)with
   |error e=>rw[ho]at h;cases h
   |ok q =>
    obtain⟨x,r1⟩:=q;rw[ho]at h;obtain⟨h1,h2⟩:=I9 ho;simp only at h;refine Aj f _ r1 l ?_ ?_ h
    ·intro y hy;rcases List.mem_append.1 hy with g|g
     ·exact ha y g
     ·simp at g;subst g;exact h1
    ·simp;omega
theorem DJ{r:Bs}{l:List iI}(h:g_ r=.ok l):(∀x∈l,x.Ok)/\l.length<=8:=by
 unfold g_ at h;split at h
 ·cases h
 ·exact Aj _ _ _ _ (by simp) (by simp) h
def KB(p:ew)(x:Bs):Bs:=p.1++61 :: x
def rp:List (ew×Bs)->Bs
 |[]=>[]
 |[p]=>KB p.1 p.2
 |p :: q :: l=>KB p.1 p.2++44 :: 32 :: rp (q :: l)
def dQ(w:World)(b c:Nat)(s:ByteArray)(v:Value):Prop:=w.heap[b]?=some (.cells #[.pointer (some ⟨c,0,none⟩),.string s,v] 167 (0,0))
section
variable {w w' : World} {b c i : Nat} {s t : ByteArray} {v : Value}
theorem dQ.cell0(h:dQ w b c s v):w.cell? ⟨b,0,none⟩=some (.pointer (some ⟨c,0,none⟩)):=by simp[World.cell?,show w.heap[b]?=_ from h]
theorem dQ.dM(h:dQ w b c s v):w.cell? ⟨b,1,none⟩=some (.string s):=by simp[World.cell?,show w.heap[b]?=_ from h]
theorem dQ.ir(h:dQ w b c s v):w.cell? ⟨b,2,none⟩=some v:=by simp[World.cell?,show w.heap[b]?=_ from h]
theorem dQ.free(h:dQ w b c s v)(k:Nat):w.frozen? ⟨b,k,none⟩=false:=by simp[World.frozen?,show w.heap[b]?=_ from h]
theorem dQ.ne(h:dQ w b c s v)(g:aU w c t i):b≠c:=by
 intro e;subst e;have h':w.heap[b]?=_:=h;have g':w.heap[b]?=_:=g;rw[h']at g';simp at g'
theorem dQ.fr{S:Nat->Prop}(h:dQ w b c s v)(hf:Fr S w w')(hn:¬S b):dQ w' b c s v:=hf.keep h hn
theorem dQ.one(h:dQ w b c s v)(g:aU w c t i)(hf:Fr (one c) w w'):dQ w' b c s v:=h.fr hf (fun e=>h.ne g e)
theorem dQ.lt(h:dQ w b c s v):b<w.heap.size:=aj h
theorem dQ.drewN{n:Nat}(h:dQ w b c s v):dQ (w.drewN n) b c s v:=h
end
theorem NS(l:Bs)(k:Nat)(hk:k<=l.length):aQ jA l (aQ bh l k)=aQ jA l k:=by
 have e1:l.drop (aQ jA l (aQ bh l k))=l.drop (aQ jA l k):=by
  rw[eO,eO,eO];exact n9 _
 have h1:aQ jA l (aQ bh l k)<=l.length:=dC (dC hk);have h2:aQ jA l k<=l.length:=dC hk;have:=congrArg List.length e1;simp at this;omega
theorem Gf{l:Bs}{k:Nat}(h:l[k]?=some 44):aQ jA l (k+1)=aQ jA l k:=(jH h (by decide)).symm
theorem KD{l:Bs}{k:Nat}(h:aQ bh l k=k)(h2:l[k]?≠some 44):aQ jA l k=k:=by
 refine fZ (fun c hc=>?_);unfold jA;cases hb:bh c
 ·have:c≠44:=fun e=>h2 (by rw[hc,e]);simpa using this
 ·have:=jH (p:=bh) hc hb;have h3:=f_ (p:=bh) (l:=l) (i:=k+1);omega
theorem qC(s:ByteArray)(k:Nat)(c:UInt8):eT s k c=true↔s.data.toList[k]?=some c:=by unfold eT;simp
theorem xK(b c i:Nat)(s:ByteArray)(v:Value)(w:World)(hr:dQ w b c s v)(h:aU w c s i)(hs:s.size<=maxLen)(hi:i<=s.size) :
  Calls Tryz.prog 98 #[.pointer (some ⟨b,0,none⟩)] w fun e w'=>e=.returned (.tuple #[])/\aU w' c s (aQ jA s.data.toList i)/\Fr (one c) w w':=by
 go_enter Tryz.func98,Tryz.ntmps98;go_wp2;go_loopw[] (fun wr=>∃k,k<=s.size/\aU wr c s k/\aQ jA s.data.toList k=aQ jA s.data.toList i/\Fr (one c) w wr) (fun wr=>s.size-ki wr c)
 case atStart=>exact⟨i,hi,h,rfl,Fr.refl _ _⟩
 case round =>
  obtain⟨k,hk,hc,mH,aW⟩:=hrel;have wX:=O mH;clear mH;have sL:=hr.one h aW;have q0:=sL.cell0;have mA:=O hc.pos;have hkl:k<=s.data.toList.length:=by simpa using hk
  have HG:=O (NS s.data.toList k hkl);have gZ:aQ bh s.data.toList k<=s.size:=by simpa using dC (p:=bh) hkl
  have SL:k<=aQ bh s.data.toList k:=f_;go_wp2_with fail
  refine(gY c s k wr hc hs hk).mono ?_;rintro e w1⟨rfl,kS,bt⟩;have gV:=O (aW.trans bt);have kR:=sL.one hc bt;have q1:=kR.cell0;generalize hK:aQ bh s.data.toList k=K at *
  have HK:=O hK;clear hK q0;by_cases pD:k<K
  ·have hd:decide (k<K)=true:=decide_eq_true pD;rw[hd];go_wp2;go_roundw
   case rel=>exact⟨K,gZ,kS,HG.out.trans wX.out,gV.out⟩
   case measure=>rw[mA.out,kS.pos];omega
  ·have hd:decide (k<K)=false:=decide_eq_false pD;have hKk:K=k:=by omega
   subst hKk;rw[hd];go_wp2_with fail
   refine(kF c s K 44 w1 kS hs).mono ?_;rintro e w2⟨rfl,nW,bq⟩;have dk:=O (gV.out.trans bq);cases hm:eT s K 44
   ·have fR:=O (KD HK.out (fun e=>by rw[(qC s K 44).2 e]at hm;cases hm));rw[kh hm]at nW;go_wp2;go_end0;rw[<-wX.out,fR.out];exact⟨rfl,nW,dk.out⟩
   ·have fR:=O (Gf ((qC s K 44).1 hm));rw[kg hm]at nW;have am':K<s.size:=by
     have:=(List.getElem?_eq_some_iff.1 ((qC s K 44).1 hm)).1;simpa using this
    go_wp2;go_roundw
    case rel=>exact⟨K+1,am',nW,fR.out.trans wX.out,dk.out⟩
    case measure=>rw[mA.out,nW.pos];omega
def cR(s:ByteArray)(i:Nat):Nat:=aQ bh s.data.toList i
theorem rW{s:ByteArray}{i:Nat}(h:i<=s.size):cR s i<=s.size:=by
 unfold cR;simpa using dC (p:=bh) (l:=s.data.toList) (i:=i) (by simpa using h)
theorem jN(s:ByteArray)(i:Nat):s.data.toList.drop (cR s i)=bS (s.data.toList.drop i):=eO _ _ _
theorem TV(s:ByteArray)(i:Nat):jl (s.data.toList.drop i)=(decide (s.size<=cR s i)||eT s (cR s i) 44):=by
 unfold jl;rw[<-jN];by_cases h:s.size<=cR s i
 ·rw[List.drop_eq_nil_of_le (by simpa using h)];simp[h,Ny]
 ·have pD:cR s i<s.data.toList.length:=by simpa using h
  rw[List.drop_eq_getElem_cons pD,decide_eq_false h,Bool.false_or];unfold Ny eT;rw[List.getElem?_eq_getElem pD,Bool.eq_iff_iff];simp
theorem od{k n:Nat}(h:k<=n):Nw (k:Int) n=k:=by unfold Nw;omega
theorem xL(b c i:Nat)(s:ByteArray)(v:Value)(w:World)(hr:dQ w b c s v)(h:aU w c s i)(hs:s.size<=maxLen)(hi:i<=s.size) :
  Calls Tryz.prog 159 #[.pointer (some ⟨b,0,none⟩)] w fun e w'=>e=.returned (.bool (jl (s.data.toList.drop i)))/\aU w' c s (cR s i)/\Fr (one c) w w':=by
 have q0:=hr.cell0;have hb:=rW hi;have HO:=O (TV s i);generalize hK:cR s i=K at *
 have HK:=O hK;clear hK;go_enter Tryz.func159,Tryz.ntmps159;go_wp2_with fail
 refine(gY c s i w h hs hi).mono ?_;rintro e w1⟨rfl,kS,bt⟩;replace kS:aU w1 c s (cR s i):=kS;rw[HK.out]at kS;have sL:=hr.one h bt;have q1:=sL.cell0;clear q0;go_wp2_with fail
 refine(uM c s K w1 kS).mono ?_;rintro e w2⟨rfl,rfl⟩;go_wp2_with fail
 refine(qz c s K w1 kS).mono ?_;rintro e w3⟨rfl,n3,rfl⟩;have nX:aU (w1.drewN n3) c s K:=kS.drewN n3;have dv:Fr (one c) w (w1.drewN n3):=bt.drewN n3;have q3:=(sL.drewN (n:=n3)).cell0;clear q1;by_cases he:s.size<=K
 ·have hd:decide (s.size<=K)=true:=decide_eq_true he;have Ja:=O (show jl (s.data.toList.drop i)=true by rw[HO.out,hd];rfl);rw[hd];clear HO;go_wp2_with fail
  refine(rL c s K K (w1.drewN n3) nX hs).mono ?_;rintro e w4⟨rfl,nU,bT⟩;rw[od hb]at nU;go_wp2;go_ret;rw[Ja.out];exact⟨rfl,nU,dv.trans bT⟩
 ·have hd:decide (s.size<=K)=false:=decide_eq_false he;have Ja:=O (show jl (s.data.toList.drop i)=eT s K 44 by rw[HO.out,hd];rfl);rw[hd];clear HO;go_wp2_with fail
  refine(kF c s K 44 (w1.drewN n3) nX hs).mono ?_;rintro e w4⟨rfl,nU,bT⟩;have q4:=((sL.drewN (n:=n3)).one nX bT).cell0;clear q3;go_wp2_with fail
  refine(rL c s _ K w4 nU hs).mono ?_;rintro e w5⟨rfl,nV,gH⟩;rw[od hb]at nV;go_wp2;go_ret;rw[Ja.out];exact⟨rfl,nV,(dv.trans bT).trans gH⟩
def CT(s:ByteArray)(i:Nat):Nat:=aQ cP s.data.toList i
theorem BM{s:ByteArray}{i:Nat}(h:i<=s.size):CT s i<=s.size:=by
 unfold CT;simpa using dC (p:=cP) (l:=s.data.toList) (i:=i) (by simpa using h)
theorem pQ(s:ByteArray)(i:Nat):s.data.toList.drop (CT s i)=dJ (s.data.toList.drop i):=eO _ _ _
theorem tF(s:ByteArray)(i:Nat):s.extract i (CT s i)=⟨(dB (s.data.toList.drop i)).toArray⟩:=sV _ _ _
theorem TW(s:ByteArray)(k:Nat)(c:UInt8):FZ c (s.data.toList.drop k)=eT s k c:=by
 unfold eT;rcases Nat.lt_or_ge k s.data.toList.length with h|h
 ·rw[List.drop_eq_getElem_cons h,List.getElem?_eq_getElem h,Bool.eq_iff_iff];simp[FZ]
 ·rw[List.drop_eq_nil_of_le h,List.getElem?_eq_none h];simp[FZ]
theorem DN(s:ByteArray)(i:Nat):gi (s.data.toList.drop i)=(!(dB (s.data.toList.drop i)).isEmpty&&eT s (cR s (CT s i)) 61):=by
 unfold gi;rw[<-pQ, <-jN,TW]
theorem toList_mk(l:Bs):(⟨l.toArray⟩:ByteArray).toList=l:=by rw[Go.ByteArray.toList_eq]
theorem Gg(b c i:Nat)(s:ByteArray)(v:Value)(w:World)(hr:dQ w b c s v)(h:aU w c s i)(hs:s.size<=maxLen)(hi:i<=s.size) :
  Calls Tryz.prog 162 #[.pointer (some ⟨b,0,none⟩)] w fun e w'=>e=.returned (.bool (gi (s.data.toList.drop i)))/\aU w' c s i/\Fr (one c) w w':=by
 have q0:=hr.cell0;have HN:=O (DN s i);have hw:=BM hi;go_enter Tryz.func162,Tryz.ntmps162;go_wp2_with fail
 refine(uM c s i w h).mono ?_;rintro e w0⟨rfl,rfl⟩;go_wp2_with fail
 refine(pC c s i w h hs hi).mono ?_;rintro e w1⟨rfl,kS,bt⟩;replace kS:aU w1 c s (CT s i):=kS;rw[show s.extract i (aQ cP s.data.toList i)=⟨(dB (s.data.toList.drop i)).toArray⟩from tF s i];generalize CT s i=K at *
 generalize dB (s.data.toList.drop i)=W at *
 have sL:=hr.one h bt;have q1:=sL.cell0;clear q0;go_wp2_with fail
 refine(gY c s K w1 kS hs hw).mono ?_;rintro e w2⟨rfl,nW,bq⟩;replace nW:aU w2 c s (cR s K):=nW;have hb:=rW hw;generalize cR s K=M at *
 have kR:=sL.one kS bq;have q2:=kR.cell0;have dk:=O (bt.trans bq);clear q1 bt bq;cases W with
 |nil =>
  have HN2:=O (show gi (s.data.toList.drop i)=false by rw[HN.out];rfl);clear HN;go_wp2_with fail
  refine(rL c s M i w2 nW hs).mono ?_;rintro e w4⟨rfl,nU,bT⟩;rw[od hi]at nU;go_wp2;go_ret;rw[HN2.out];exact⟨rfl,nU,dk.out.trans bT⟩
 |cons x W =>
  have HN2:=O (show gi (s.data.toList.drop i)=eT s M 61 by rw[HN.out];rfl);clear HN;go_wp2_with fail
  refine(kF c s M 61 w2 nW hs).mono ?_;rintro e w3⟨rfl,nX,dv⟩;have q3:=(kR.one nW dv).cell0;clear q2;go_wp2_with fail
  refine(rL c s _ i w3 nX hs).mono ?_;rintro e w4⟨rfl,nU,bT⟩;rw[od hi]at nU;go_wp2;go_ret;rw[HN2.out];exact⟨rfl,nU,(dk.out.trans dv).trans bT⟩
end Go.Proofs.YtjdmjbdkdmbaiaaGreatDoor
