/- Lemmas for the law's walk. -/
import Derived.Test.YtjndhcngnghpiaaGreatDoorPo15
import Derived.Deep.Onto
set_option maxRecDepth 100000
set_option maxHeartbeats 16000000
set_option linter.unusedSimpArgs false
namespace Go.Proofs.YtjndhcngnghpiaaGreatDoor
open Go.Proofs.Tryz
open Go.RowKit
variable {b b' k n base m p i o T j:Nat} {w W U:World} {v u:Value} {x:d_} {S:dz} {cs:aX} {t:gB}
theorem UA{P G:Nat->bS->World->Prop}{T:Prop}(main:(∀a b c,P a b c->G a b c)->T)(rest:∀a b c,P a b c->G a b c):T:=main rest
def su(base:Nat)(a:World)(B off:Nat)(cs:aX)(v:dm)(p:eB)(n:Nat)(X:bS)(t:TypeId)(W:World):Prop :=
 ∃v',eO base W v' p/\Fr (zr B v) a W/\(∀k,v'.jM k->v.jM k\/a.heap.size<=k)/\W.heap[B]?=some (.cells (oX cs off v').toArray 97 (0,0))/\W.heap[n]?=some (.cells X t (0,0))/\¬v'.jM n/\a.heap.size<=n
section
variable {base B off n : Nat} {a w3 u : World} {cs : List Value} {v : dm} {p p0 : eB} {z : Array Value} {t : TypeId}
theorem su.core{v':dm}(h1:eO base u v' p)(h2:Fr (zr B v) a u)(h3:∀k,v'.jM k->v.jM k\/a.heap.size<=k)(h4:u.heap[B]?=some (.cells (oX cs off v').toArray 97 (0,0)))(hn:u.heap[n]?=some (.cells z t (0,0)))(hf:¬v'.jM n)(UB:a.heap.size<=n)(o8:base<=a.heap.size)(hB:B<a.heap.size)(hs:t≠9)(X:bS) :
  su base a B off cs v p n X t (u.setRow n X)/\∀vv ss,cZ base u vv ss->cZ base (u.setRow n X) vv ss:=by
 have kx:Fr (one n) u (u.setRow n X):=(ae (one n) u).setRow (fun _=>rfl) _;have mK:rL base u (one n):=by
  rintro k rfl _;exact⟨ab,fun c f e=>by rw[hn]at e;cases e;exact hs rfl⟩
 refine⟨⟨v',h1.fr kx mK (fun i hi e=>?_),h2.step kx (fun k hk e=>?_),h3,kx.keep h4 (fun e=>?_),lK hn,hf,UB⟩,fun vv ss h=>h.fr kx mK⟩
 ·have e':i=n:=e;subst e';exact hf hi
 ·have e':k=n:=e;omega
 ·have e':B=n:=e;omega
theorem su.after(h:cX base a B cs off v p u)(o8:base<=a.heap.size)(hB:B<a.heap.size)(hs:t≠9)(z X:bS) :
  su base a B off cs v p u.heap.size X t ((u.alloc (.cells z t)).setRow u.heap.size X)/\∀vv ss,cZ base u vv ss->cZ base ((u.alloc (.cells z t)).setRow u.heap.size X) vv ss:=by
 obtain⟨v',h1,h2,h3,h4⟩:=h;have iv:Fr aW u (u.alloc (.cells z t)):=(ae aW u).alloc _;obtain⟨g1,g2⟩:=su.core (h1.dt iv) (h2.alloc _) h3 (iv.keep h4 id) (aB _ _) (fun hf=>by have:=h1.ja hf;omega) h2.size o8 hB hs X;exact⟨g1,fun vv ss hv=>g2 vv ss (hv.dt iv)⟩
theorem su.before(h0:eO base a v p0)(f3:Fr aW a w3)(UB:a.heap.size<=n)(hn:w3.heap[n]?=some (.cells z t (0,0)))(h:cX base w3 B cs off v p u)(o8:base<=a.heap.size)(hB:B<a.heap.size)(hs:t≠9)(X:bS) :
  su base a B off cs v p n X t (u.setRow n X)/\∀vv ss,cZ base u vv ss->cZ base (u.setRow n X) vv ss:=by
 obtain⟨v',h1,h2,h3,h4⟩:=h;have hv:¬v.jM n:=fun hf=>by have:=h0.ja hf;omega
 have hl:=bg hn;refine su.core h1 (fL (S:=zr B v) (f3.mono (fun _ _ h=>absurd h id)) h2 (fun _ _ h=>h)) (fun k hk=>?_) h4 (h2.keep hn (fun e=>?_)) (fun hf=>?_) UB o8 hB hs X
 ·rcases h3 k hk with h|h
  ·exact Or.inl h
  ·exact Or.inr (aE f3.size h)
 ·rcases e with e|e
  ·omega
  ·exact hv e
 ·rcases h3 n hf with h|h
  ·exact hv h
  ·omega
end
theorem OwnRows.mono{e:TypeId}{xs:cU}(h:OwnRows b e k w v xs)(hb:b'<=b):OwnRows b' e k w v xs:=⟨h.1,World.ownsRow.mono h.2 hb⟩
theorem eM.mono{ps:List en}(h:eM b w n v ps)(hb:b'<=b):eM b' w n v ps:=⟨aE hb h.low,h.eG,OwnRows.mono h.rows hb⟩
def cpP(qv:Nat->dm)(k i:Nat):aX:=if i<k then(qv i).cells else [.pointer none,.pointer none,.slice none 0 0]
def cpC(qv:Nat->dm)(now:Int)(k:Nat):aX:=cpP qv k 0++(cpP qv k 1++(cpP qv k 2++(cpP qv k 3++[.int .i64 now])))
theorem U4(qv:Nat->dm)(now:Int)(hk:k<4)(v:dm):oX (cpC qv now k) (k*3) v=cpC (ya qv k v) now (k+1):=by
 unfold oX cpC cpP ya dm.cells
 match k,hk with
 |0,_=>rfl
 |1,_=>rfl
 |2,_=>rfl
 |3,_=>rfl
theorem ac7(qv:Nat->dm)(now:Int)(hk:k<4):(cpC qv now k)[k*3]?=some (.pointer none)/\(cpC qv now k)[k*3+1]?=some (.pointer none)/\(cpC qv now k)[k*3+2]?=some (.slice none 0 0):=by
 unfold cpC cpP
 match k,hk with
 |0,_=>exact⟨rfl,rfl,rfl⟩
 |1,_=>exact⟨rfl,rfl,rfl⟩
 |2,_=>exact⟨rfl,rfl,rfl⟩
 |3,_=>exact⟨rfl,rfl,rfl⟩
structure Kz (base:Nat) (w:World) (x:d_) (k:Nat) (qv:Nat->dm) (W:World):Prop where
 fr:Fr aW w W
 eG:W.heap[w.heap.size]?=some (.cells (cpC qv x.now k).toArray 97 (0,0))
 part:∀i,i<k->eO base W (qv i) (x.part i)
 new:∀i,i<k->∀j,(qv i).jM j->w.heap.size<j
 apart:∀i j,i<k->j<k->i≠j->∀n,(qv i).jM n->¬(qv j).jM n
theorem Kz.step{qv:Nat->dm}(h:Kz base w x k qv W)(hb:base<=w.heap.size)(hk:k<4)(hU:Fr aW W U){v:dm}(hp:eO base U v (x.part k))(hn:∀j,v.jM j->W.heap.size<=j) :
  Kz base w x (k+1) (ya qv k v) (((U.setCell ⟨w.heap.size,k*3,none⟩ (.pointer (some ⟨v.b,0,none⟩))).setCell ⟨w.heap.size,k*3+1,none⟩ (.pointer (some ⟨v.k,0,none⟩))).setCell ⟨w.heap.size,k*3+2,none⟩ v.cv):=by
 have hN:w.heap.size<W.heap.size:=bg h.eG;have pI:=hU.keep h.eG id;have Eb:Fr (one w.heap.size) U (((U.setCell ⟨w.heap.size,k*3,none⟩ (.pointer (some ⟨v.b,0,none⟩))).setCell ⟨w.heap.size,k*3+1,none⟩ (.pointer (some ⟨v.k,0,none⟩))).setCell ⟨w.heap.size,k*3+2,none⟩ v.cv) :=
  (((ae (one w.heap.size) U).setCell (p:=⟨w.heap.size,k*3,none⟩) (fun _=>rfl) _).setCell (p:=⟨w.heap.size,k*3+1,none⟩) (fun _=>rfl) _).setCell (p:=⟨w.heap.size,k*3+2,none⟩) (fun _=>rfl) _
 have mK:rL base U (one w.heap.size):=by
  rintro j rfl _;exact⟨hb,fun c f e=>by rw[pI]at e;cases e⟩
 have e1:=b_ pI (k*3) (.pointer (some ⟨v.b,0,none⟩));have e2:=b_ e1 (k*3+1) (.pointer (some ⟨v.k,0,none⟩));have e3:=b_ e2 (k*3+2) v.cv;have old:∀i,i<k->∀j,(qv i).jM j->j<W.heap.size:=fun i hi j hj=>(h.part i hi).ja hj
 refine⟨(((h.fr.trans hU).gI (p:=⟨w.heap.size,k*3,none⟩) (ay _) _).gI (p:=⟨w.heap.size,k*3+1,none⟩) (ay _) _).gI (p:=⟨w.heap.size,k*3+2,none⟩) (ay _) _,?_,fun i hi=>?_,fun i hi j hj=>?_,fun i j hi hj Px n Ij zU=>?_⟩
 ·rw[e3, <-U4 qv x.now hk v];unfold oX;simp
 ·by_cases Lp:i=k
  ·subst Lp;rw[sr];exact hp.fr Eb mK (fun j hj e=>by have e':j=w.heap.size:=e;have:=hn j hj;omega)
  ·rw[mq qv v Lp];have ahJ:i<k:=ab;exact((h.part i ahJ).dt hU).fr Eb mK (fun j hj e=>by have e':j=w.heap.size:=e;have:=h.new i ahJ j hj;omega)
 ·by_cases Lp:i=k
  ·subst Lp;rw[sr]at hj;have:=hn j hj;omega
  ·rw[mq qv v Lp]at hj;exact h.new i ab j hj
 ·by_cases Lp:i=k
  ·subst Lp;rw[sr]at Ij;rw[mq qv v (kH Px)]at zU;have a1:=hn n Ij;have a2:=old j ab n zU;omega
  ·rw[mq qv v Lp]at Ij;by_cases hjk:j=k
   ·subst hjk;rw[sr]at zU;have a1:=hn n zU;have a2:=old i ab n Ij;omega
   ·rw[mq qv v hjk]at zU;exact h.apart i j ab ab Px n Ij zU
theorem Kz.done{qv:Nat->dm}(h:Kz base w x 4 qv W)(hb:base<=w.heap.size):df base W w.heap.size qv x :=
 ⟨hb,h.eG,h.part,h.apart⟩
def ahK(base:Nat)(w:World)(x:d_)(t:Value)(wr:World):Prop:=∃(k:Nat) (qv:Nat->dm),k<=4/\t=.int .i64 k/\Kz base w x k qv wr
def FR(base:Nat)(w:World)(x:d_)(e:Ending)(w':World):Prop :=
 ∃B qv,e=.returned (.pointer (some ⟨B,0,none⟩))/\df base w' B qv x/\Fr aW w w'/\∀j,mr B qv j->w.heap.size<=j
theorem AA(base:Nat)(w:World)(B:Nat)(pv:Nat->dm)(x:d_)(h:df base w B pv x)(hs:∀i,i<4->(x.part i).bW.length<68719476736/\(x.part i).waits.length<68719476736/\(x.part i).book.length<1000000/\(x.part i).eH.length<=1000000) :
  aC 29 #[.pointer (some ⟨B,0,none⟩)] w (FR base w x):=by
 have hb:base<=w.heap.size:=aE h.low (Nat.le_of_lt h.lt);obtain⟨x1,nz⟩:∃x1,x1=w.alloc (.cells #[.pointer none,.pointer none,.slice none 0 0,.pointer none,.pointer none,.slice none 0 0,.pointer none,.pointer none,.slice none 0 0,.pointer none,.pointer none,.slice none 0 0,.int .i64 x.now] 97):=⟨_,rfl⟩;have dn:Fr aW w x1:=by rw[nz];exact(ae _ _).alloc _
 have h0:Kz base w x 0 pv x1:=⟨dn,by rw[nz];exact aB _ _,fun i hi=>absurd hi (cq i),fun i hi=>absurd hi (cq i),fun i j hi=>absurd hi (cq i)⟩;have H0:=O h0;have HW:=O h;have HB:=O hb;have HS:=O hs;have pI:=h.eG;have rH:=dn.keep h.eG id;unfold iz dm.cells at pI rH;simp only[List.cons_append,List.nil_append]at pI rH;have YR:w.cell? ⟨B,12,none⟩=some (.int .i64 x.now):=by simp only[World.cell?,pI];rfl
 have c0:x1.cell? ⟨B,0,none⟩=some (.pointer (some ⟨(pv 0).b,0,none⟩)):=by simp only[World.cell?,rH];rfl
 have c1:x1.cell? ⟨B,1,none⟩=some (.pointer (some ⟨(pv 0).k,0,none⟩)):=by simp only[World.cell?,rH];rfl
 have c2:x1.cell? ⟨B,2,none⟩=some ((pv 0).cv):=by simp only[World.cell?,rH];rfl
 have c3:x1.cell? ⟨B,3,none⟩=some (.pointer (some ⟨(pv 1).b,0,none⟩)):=by simp only[World.cell?,rH];rfl
 have c4:x1.cell? ⟨B,4,none⟩=some (.pointer (some ⟨(pv 1).k,0,none⟩)):=by simp only[World.cell?,rH];rfl
 have c5:x1.cell? ⟨B,5,none⟩=some ((pv 1).cv):=by simp only[World.cell?,rH];rfl
 have c6:x1.cell? ⟨B,6,none⟩=some (.pointer (some ⟨(pv 2).b,0,none⟩)):=by simp only[World.cell?,rH];rfl
 have c7:x1.cell? ⟨B,7,none⟩=some (.pointer (some ⟨(pv 2).k,0,none⟩)):=by simp only[World.cell?,rH];rfl
 have c8:x1.cell? ⟨B,8,none⟩=some ((pv 2).cv):=by simp only[World.cell?,rH];rfl
 have c9:x1.cell? ⟨B,9,none⟩=some (.pointer (some ⟨(pv 3).b,0,none⟩)):=by simp only[World.cell?,rH];rfl
 have G1:x1.cell? ⟨B,10,none⟩=some (.pointer (some ⟨(pv 3).k,0,none⟩)):=by simp only[World.cell?,rH];rfl
 have T9:x1.cell? ⟨B,11,none⟩=some ((pv 3).cv):=by simp only[World.cell?,rH];rfl
 have XV:=O (show∀k:Nat,k<4->∀u,Sem.run prog (Instr.index 95 (.agg #[.pointer (some ⟨(pv 0).b,0,none⟩),.pointer (some ⟨(pv 0).k,0,none⟩),(pv 0).cv,.pointer (some ⟨(pv 1).b,0,none⟩),.pointer (some ⟨(pv 1).k,0,none⟩),(pv 1).cv,.pointer (some ⟨(pv 2).b,0,none⟩),.pointer (some ⟨(pv 2).k,0,none⟩),(pv 2).cv,.pointer (some ⟨(pv 3).b,0,none⟩),.pointer (some ⟨(pv 3).k,0,none⟩),(pv 3).cv]) (.int .i64 k)) u=.ok (.agg #[.pointer (some ⟨(pv k).b,0,none⟩),.pointer (some ⟨(pv k).k,0,none⟩),(pv k).cv]) u from fun k hk u=>by
  rcases(show k=0\/k=1\/k=2\/k=3 from ab)with rfl|rfl|rfl|rfl
  ·kernel_rfl
  ·kernel_rfl
  ·kernel_rfl
  ·kernel_rfl)
 have Wg:=O nz;rw[nz]at c0 c1 c2 c3 c4 c5 c6 c7 c8 c9 G1 T9;clear h0 h hb hs pI rH nz dn;go_enter func29,ntmps29;go_wp2_with fail
 rw[<-Wg.o];clear c0 c1 c2 c3 c4 c5 c6 c7 c8 c9 G1 T9 YR;go_loopw[16] (ahK base w x) (fun i _=>4-(intOf i).toNat)
 case atStart=>exact⟨0,pv,aS _,rfl,H0.o⟩
 case round =>
  obtain⟨k,qv,hk,rfl,hcp⟩:=hrel;by_cases fx:k<4
  ·have qp:(k:Int)<4:=ab;have Uw:¬(k:Int)<0:=ab;have am_:(0:Int)<=(k:Int):=ab;have ac9:¬(4:Int)<=(k:Int):=ab;have wA:=XV.o k fx;have RV:=O hcp;have YS:=O fx;obtain⟨cvk,am'⟩:∃c,c=(pv k).cv:=⟨_,rfl⟩;obtain⟨ca,cc,Lz⟩:=(HW.o.part k fx).eH.form;rw[aj]at Lz;rw[Lz]at wA
   obtain⟨y1,D9⟩:∃y1,y1=wr.alloc (.cells #[.pointer (some ⟨(pv k).b,0,none⟩),.pointer (some ⟨(pv k).k,0,none⟩),.slice ca (x.part k).eH.length cc] 94):=⟨_,rfl⟩;have hfy:Fr aW wr y1:=by rw[D9];exact(ae _ _).alloc _
   have qD:y1.heap[wr.heap.size]?=some (.cells #[.pointer (some ⟨(pv k).b,0,none⟩),.pointer (some ⟨(pv k).k,0,none⟩),.slice ca (x.part k).eH.length cc] 94 (0,0)):=by rw[D9];exact aB _ _
   have HWY:=O (HW.o.dt (hcp.fr.trans hfy));have HFY:=O hfy;have HBY:=O qD;have HY1:=O D9;have HCF:=O Lz;have HC:=O (show∀U,Fr aW y1 U->(U.cell? ⟨wr.heap.size,0,none⟩=some (.pointer (some ⟨(pv k).b,0,none⟩))/\U.cell? ⟨wr.heap.size,1,none⟩=some (.pointer (some ⟨(pv k).k,0,none⟩))/\U.cell? ⟨wr.heap.size,2,none⟩=some (.slice ca (x.part k).eH.length cc))from fun U hU=>by
    have j:=hU.keep HBY.o id;refine⟨?_,?_,?_⟩<;>simp[World.cell?,j])
   have HKB:=O (show∀U,Fr aW y1 U->aC 39 #[.pointer (some ⟨(pv k).b,0,none⟩)] U (J2 base U (x.part k).bW (x.part k).waits)from fun U hU=>T4 base U (pv k).b (pv k).gv (pv k).wv (x.part k).bW (x.part k).waits ((HWY.o.dt hU).part k YS.o).oW (HS.o k YS.o).1 (HS.o k YS.o).2.1)
   have HKK:=O (show∀U,Fr aW y1 U->aC 40 #[.pointer (some ⟨(pv k).k,0,none⟩)] U fun e w'=>∃b' v',e=.returned (.pointer (some ⟨b',0,none⟩))/\eM U.heap.size w' b' v' (x.part k).book/\Fr aW U w' from fun U hU=>Hg base U (pv k).k (pv k).kv (x.part k).book ((HWY.o.dt hU).part k YS.o).book (HS.o k YS.o).2.2.1)
   have HKC:=O (show∀U,Fr aW y1 U->aC 41 #[.slice ca (x.part k).eH.length cc] U fun e w'=>∃v',e=.returned v'/\OwnRows U.heap.size 105 4 w' v' ((x.part k).eH.map lW)/\Fr aW U w' from fun U hU=>by
    have hh:=((HWY.o.dt hU).part k YS.o).eH.at;rw[HCF.o]at hh;exact YQ _ _ U hh (by rw[aj];have:=(HS.o k YS.o).2.2.2;omega))
   clear hcp hfy qD D9 Lz am' cvk fx;go_wp2_with fail
   rw[<-HY1.o];refine wp_region_held_drew (S:=(fun U=>U.cell? ⟨wr.heap.size,0,none⟩=some (.pointer (some ⟨(pv k).b,0,none⟩))/\U.cell? ⟨wr.heap.size,1,none⟩=some (.pointer (some ⟨(pv k).k,0,none⟩))/\U.cell? ⟨wr.heap.size,2,none⟩=some (.slice ca (x.part k).eH.length cc))) af (HC.o _ (az (ae _ _))) ?_;intro yl;refine aO 0 20 rfl ?_;refine aO 1 21 rfl ?_;refine aO 2 22 rfl ?_;refine aO 3 23 rfl ?_
   refine aO 5 25 rfl ?_;refine aO 6 26 rfl ?_;refine aO 8 28 rfl ?_;refine aO 9 29 rfl ?_;refine aO 12 32 rfl ?_;refine aO 13 33 rfl ?_;refine eK 4 rfl fun K hK=>?_;go_simp;refine(HKB.o _ (az (ae aW y1))).mono ?_;rintro e u1⟨kb,kg,kw,rfl,hb,hf,hn⟩;have lB:=O ((az (ae aW y1)).trans hf);have Ly:=O hf;have HGB:=O hb;have HGN:=O hn;clear hb hf hn;refine hK.out _ _ (HC.o _ lB.o) ?_;intro wU;clear hK yl K
   try simp only[Act.put,sA,sB,sC]
   refine eK 7 rfl fun K hK=>?_;go_simp;refine(HKK.o _ (lB.o)).mono ?_;rintro e u2⟨kk,kv,rfl,hb,hf⟩;have fS:=O ((lB.o).trans hf);have YB:=O hf;have HGK:=O hb;clear hb hf;refine hK.out _ _ (HC.o _ fS.o) ?_;intro Bj;clear hK wU K
   try simp only[Act.put,sA,sB,sC]
   refine eK 10 rfl fun K hK=>?_;go_simp;refine(HKC.o _ (fS.o)).mono ?_;rintro e u3⟨kc,rfl,hb,hf⟩;have ij:=O ((fS.o).trans hf);have HQ3:=O hf;have HGC:=O hb;obtain⟨na,nc,UW⟩:=hb.form;rw[aj]at UW;subst UW;clear hb hf;refine hK.out _ _ (HC.o _ ij.o) ?_;intro EA;clear hK Bj K
   try simp only[Act.put,sA,sB,sC]
   refine aO 11 31 rfl ?_;refine aO 14 34 rfl ?_;refine eK 15 rfl fun K hK=>?_
   have iM:=RV.o.step HB.o YS.o (HFY.o.trans ij.o) (v:=⟨kb,kg,kw,kk,kv,.slice na (x.part k).eH.length nc⟩) ⟨HGB.o.dt (YB.o.trans HQ3.o),(eM.mono HGK.o (aE (aE HB.o RV.o.fr.size) (HFY.o.trans (lB.o)).size)).dt HQ3.o,OwnRows.fr (OwnRows.mono HGC.o (aE (aE HB.o RV.o.fr.size) (HFY.o.trans (fS.o)).size)) (ae _ _) (fun _ _ h=>h)⟩ (by
    rintro j(hj|hj|hj)
    ·exact aE (HFY.o.trans (az (ae _ _))).size (HGN.o j hj)
    ·exact aE (HFY.o.trans (lB.o)).size (HGK.o.nt hj)
    ·exact aE (HFY.o.trans (fS.o)).size (HGC.o.block _ hj))
   have lT:=O iM;have sG:=ij.o.keep (HFY.o.keep RV.o.eG id) id;obtain⟨q0,q1,q2⟩:=ac7 qv x.now YS.o;have c0:u3.cell? ⟨w.heap.size,k*3,none⟩=some (.pointer none):=by simp[World.cell?,sG,q0]
   have c1:u3.cell? ⟨w.heap.size,k*3+1,none⟩=some (.pointer none):=by simp[World.cell?,sG,q1]
   have c2:u3.cell? ⟨w.heap.size,k*3+2,none⟩=some (.slice none 0 0):=by simp[World.cell?,sG,q2]
   have f0:∀j,u3.frozen? ⟨w.heap.size,j,none⟩=false:=fun j=>by simp[World.frozen?,sG]
   have f1:=f0 (k*3);have f2:=f0 (k*3+1);have f3:=f0 (k*3+2);obtain⟨W9,hw9⟩:∃W9,W9=((u3.setCell ⟨w.heap.size,k*3,none⟩ (.pointer (some ⟨kb,0,none⟩))).setCell ⟨w.heap.size,k*3+1,none⟩ (.pointer (some ⟨kk,0,none⟩))).setCell ⟨w.heap.size,k*3+2,none⟩ (.slice na (x.part k).eH.length nc):=⟨_,rfl⟩
   have HS9:=O (show Kz base w x (k+1) (ya qv k ⟨kb,kg,kw,kk,kv,.slice na (x.part k).eH.length nc⟩) W9 by rw[hw9];exact lT.o);have Eb:Fr (one w.heap.size) u3 W9:=by rw[hw9];exact(((ae (one w.heap.size) u3).setCell (p:=⟨w.heap.size,k*3,none⟩) (fun _=>rfl) _).setCell (p:=⟨w.heap.size,k*3+1,none⟩) (fun _=>rfl) _).setCell (p:=⟨w.heap.size,k*3+2,none⟩) (fun _=>rfl) _
   have Nb:=Eb.keep (ij.o.keep HBY.o id) (fun e=>by have e':wr.heap.size=w.heap.size:=e;have:=bg RV.o.eG;omega);have HB9:=O Nb;clear Eb Nb;clear iM q0 q1 q2 f0 sG;go_simp;rw[<-hw9];clear hw9;have Nb:=HB9.o;refine hK.out _ _ ⟨by simp[World.cell?,Nb],by simp[World.cell?,Nb],by simp[World.cell?,Nb]⟩ ?_;intro Aw;clear hK EA K Aw Nb
   try simp only[Act.put,sA,sB,sC]
   refine wpAnyH_done af ?_ _;go_wp2_with fail
   go_roundw
   case rel=>exact⟨k+1,_,ab,bf,HS9.o⟩
   case measure=>simp[intOf];omega
  ·have Jv:k=4:=ab;subst Jv;have HD:=O (hcp.done HB.o);have uf:=O hcp.fr;have HNW:=O (show∀j,mr w.heap.size qv j->w.heap.size<=j from fun j hj=>by
    rcases hj with rfl|⟨i,hi,hj⟩
    ·exact ay _
    ·exact Nat.le_of_lt (hcp.new i hi j hj))
   clear hcp H0;go_wp2;go_ret;exact⟨_,_,rfl,HD.o,uf.o,HNW.o⟩
theorem Q8:(prog.info? 105).map (fun i=>(i.zero,i.size,i.bytes))=some (some (.agg Wt),4,40):=af
theorem Nu{w4:World}{l:List (gy×Int)}{c:gy×Int}{gg cap:Nat}(h:w4.ownsRow base 105 4 (.slice (some ⟨gg,0,none⟩) (l.length+1) cap) (l.length+1) ((l.map lW).flatten++lW c)) :
  OwnRows base 105 4 w4 (.slice (some ⟨gg,0,none⟩) (l.length+1) cap) ((l++[c]).map lW):=by
 refine⟨fun x hx=>?_,?_⟩
 ·obtain⟨q,_,rfl⟩:=cj.1 hx;exact⟨rfl,F7 q⟩
 ·rw[bD,ec,aM,aj];simpa using h
theorem Nv(base:Nat)(w:World)(B off:Nat)(cs:aX)(v:dm)(p:eB)(o:jB)(hs:List gU)(h:eO base w v p)(ha:gJ w B cs off v)(o8:base<=B)(hf:gL w o hs)(hk:mY p) :
  aC 47 #[.pointer (some ⟨B,off,none⟩),.agg o.cells.toArray] w (eD base w B cs off v (oI p (o.dP hs))):=by
 have uo:B<w.heap.size:=bg ha.eG;have FP:¬v.jM B:=h.fa ha.eG ag;obtain⟨ah,ch,gq⟩:=hf.gO;obtain⟨w2,ez⟩:∃w2,w2=(w.alloc (.cells o.cells.toArray 33)).alloc (.cells bQ 46):=⟨_,rfl⟩;have dD:Fr aW w w2:=by rw[ez];exact((ae aW w).alloc _).alloc _
 have k1:w2.heap[w.heap.size]?=some (.cells o.cells.toArray 33 (0,0)):=by rw[ez];exact((ae aW _).alloc _).keep (aB _ _) id
 have k2:w2.heap[w.heap.size+1]?=some (.cells bQ 46 (0,0)):=by
  have h:=aB (w.alloc (.cells o.cells.toArray 33)) (.cells bQ 46);rw[bM]at h;rw[ez];exact h
 have wO:w2.heap.size=w.heap.size+2:=by rw[ez];simp
 have US:=O (show∀U,Fr aW w2 U->U.heap[w.heap.size]?=some (.cells o.cells.toArray 33 (0,0))from fun U hU=>hU.keep k1 id);have B_:=O FP;have HH:=O h;have HA:=O ha;have HF:=O hf;have lg:=O gq;have HK:=O hk;have fS:=O dD;have mE:=O k1;have qx:=O k2;have pU:=O (show base<=w.heap.size from ab);have wR:=O o8;have oM:=O uo;have QE:=O ez
 obtain⟨a0,a1,a2,a3,a4,a5,a6,a7,a8,a9,jr,js,a12,jq,jt,i_,jD,jE,jF,jN,a20,a21⟩:=ed k1 gq;rw[ez]at a0 a1 a2 a3 a4 a5 a6 a7 a8 a9 jr js a12 jq jt i_ jD jE jF jN a20 a21;rw[dV gq]at ez a0 a1 a2 a3 a4 a5 a6 a7 a8 a9 jr js a12 jq jt i_ jD jE jF jN a20 a21 ⊢;unfold bQ at ez a0 a1 a2 a3 a4 a5 a6 a7 a8 a9 jr js a12 jq jt i_ jD jE jF jN a20 a21;have oz:=O ez;clear ez gq dD k1 k2 h ha hf FP hk
 go_enter func47,ntmps47;have QR:=HK.o.rf;by_cases aim:o.cert<0
 ·have HR:=O (show oI p (o.dP hs)=(p,rep 7)by
   unfold oI;rw[aA (show(o.dP hs).cert<0 from aim)])
  have HP:=O (lX HH.o HA.o fS.o);have rP:=oz.o;subst rP;go_wp2_with (first|((with_reducible refine cP 46 ?_);refine aF rfl 46 (.tmp 4) (.tmp 9) rfl (w.heap.size+1) #[.int .i64 7,.string ⟨#[]⟩,.int .i64 0] rfl rfl _ bQ qx.o (bd _ rfl) rfl bX ?_)|fail)
  refine aR (bh bw _ _ (w.heap.size+1) 46 #[.int .i64 7,.string ⟨#[]⟩,.int .i64 0] (0,0) _ rfl (aY _ (w.heap.size+1) _ _ _ _ qx.o) underlying46 rfl (bd _ rfl)) rfl ?_;unfold eD;rw[HR.o];exact⟨rfl,dw HP.o pU.o oM.o (bT _) qx.o eJ ag _⟩
 ·have HR:=O (show oI p (o.dP hs)=({p with eH:=xk p.eH o.aI.o o.cert},rep 1)by
   unfold oI;rw[ar (show¬(o.dP hs).cert<0 from aim)];rfl)
  have DR:=O (KT base w2 B off cs v p o.aI.o (HH.o.dt fS.o) (HA.o.dt fS.o) wR.o);unfold gy.cells at DR;have hx:=oz;have rP:=oz.o;go_wp2_with fail
  rw[<-rP];refine DR.o.mono ?_;rintro e u3⟨rfl,hp3⟩;clear DR a0 a1 a2 a3 a4 a5 a6 a7 a8 a9 jr js a12 jq jt i_ jD jE jF jN a20 a21 hx rP;obtain⟨v3,i3,f3,aaM,ain⟩:=hp3;have aa3:=ia (HA.o.dt fS.o) ain;have o3:=eF (HH.o.dt fS.o) f3 (show w2.heap[w.heap.size]?=_ from mE.o) kZ ab;have r3:=eF (HH.o.dt fS.o) f3 (show w2.heap[w.heap.size+1]?=_ from qx.o) dR ab
  obtain⟨a0,a1,a2,a3,a4,a5,a6,a7,a8,a9,jr,js,a12,jq,jt,i_,jD,jE,jF,jN,a20,a21⟩:=ed o3 lg.o;obtain⟨fs,kx⟩:∃fs,fs=Ka o.aI.o p.eH:=⟨_,rfl⟩;have za:fs.length<=8:=by rw[kx];unfold Ka;exact aE (bR _ _) QR.2.2.2
  rw[<-kx]at i3;obtain⟨av,cv,hcv⟩:=i3.eH.form;rw[aj]at hcv;have d2:=aa3.lU;have e2:=aa3.free (off+2);rw[hcv]at d2;have cO:u3.ownsRow base 105 4 (.slice av fs.length cv) fs.length (fs.map lW).flatten:=by
   have h:=i3.eH.2;rw[hcv,aj]at h;exact h
  have hB3:¬own (.slice av fs.length cv) B:=fun hb=>i3.fa aa3.eG ag (Or.inr (Or.inr (by rw[hcv];exact hb)));have aio:B<u3.heap.size:=bg aa3.eG;have atW:base<=u3.heap.size:=by have:=wR.o;omega
  obtain⟨i0,ri,oZ,kI,kS⟩:=info_parts Q8;have wP:=O (F7 (o.aI.o,o.cert));have I3:=O i3;have A3:=O aa3;have F3:=O f3;have FT3:=O aaM;have O3:=O o3;have R3:=O r3;have wT:=O hcv;have TM:=O kx;clear i3 aa3 f3 aaM o3 r3 ain hcv kx;go_wp2_with fail
  go_region_law ((with_reducible refine mG ⟨some 29,_,_,_,_,_⟩ ?_)
                 refine step_append_lies _ bw _ _ _ bw base 105 i0 _ 4 40 underlying92 ri oZ kI kS rfl ab (.slice av fs.length cv) fs.length _ bw (by repeat(first|exact cO|apply World.ownsRow.alloc|apply World.ownsRow.drew)) ⟨u3.heap.size,0,none⟩ 1 1 (lW (o.aI.o,o.cert)) bw bw (kB u3 (lW (o.aI.o,o.cert)) _) wP.o ab fl ab bF (u3.heap.size+1) aQ ?_
                 intro gg cap w4 eU jk dL JY
                 have jH:Fr (own (.slice av fs.length cv)) u3 w4:=fg (by repeat(first|exact ae _ _|apply az|apply bq)) jk (fun _ hk _=>hk)
                 have k4:w4.cell? ⟨B,off+2,none⟩=some (.slice av fs.length cv):=(jH.cell (p:=⟨B,off+2,none⟩) aio hB3).trans d2
                 have e4:w4.frozen? ⟨B,off+2,none⟩=false:=(jH.frozen (p:=⟨B,off+2,none⟩) aio hB3).trans e2)
  all_goals
   have hP:=cX.eH I3.o A3.o wR.o (Nu eU) (by rw[wT.o];exact jH) (fun k hk=>by
    have e:gg=k:=by simpa[own,Value.ownBlock]using hk
    subst e;rcases dL with dL|dL
    ·exact Or.inl (by rw[wT.o];exact dL)
    ·exact Or.inr ab)
   clear eU jk jH k4 e4 dL JY cO a0 a1 a2 a3 a4 a5 a6 a7 a8 a9 jr js a12 jq jt i_ jD jE jF jN a20 a21 d2 e2;generalize w4.setCell ⟨B,off+2,none⟩ (.slice (some ⟨gg,0,none⟩) (fs.length+1) cap)=w5 at *
   obtain⟨v5,i5,f5,KU,Vi⟩:=hP;have aa5:=ia A3.o Vi;have r5:=eF I3.o f5 R3.o dR ab;obtain⟨av5,cv5,Y3⟩:=i5.eH.form;have Aj:(List.map lW (fs++[(o.aI.o,o.cert)])).length=fs.length+1:=aQ;rw[Aj]at Y3;have d5:=aa5.lU;have e5:=aa5.free (off+2);rw[Y3]at d5;have I5:=O i5;have F5:=O f5;have FT5:=O KU;have AA5:=O aa5;have R5:=O r5;have Vj:=O Y3;have RO:=O Aj;clear i5 f5 KU aa5 r5 Y3 Aj Vi
   by_cases h8:8<=fs.length
   ·have Z':(8:Int)<(fs.length:Int)+1:=ab;obtain⟨n,hn⟩:∃n:Nat,fs.length+1=n+8:=⟨fs.length+1-8,ab⟩;obtain⟨g5,rfl⟩:∃g5,av5=some ⟨g5,0,none⟩:=by
     rcases I5.o.eH.2.2 with ⟨hv,hq⟩|⟨g,cap,cur,hv,_⟩
     ·rw[RO.o]at hq;omega
     ·rw[Vj.o]at hv;injection hv with h1;exact⟨g,h1⟩
    have lY:=I5.o.eH;rw[Vj.o, <-RO.o]at lY;have ql:=QU base g5 cv5 0 n (List.map lW (fs++[(o.aI.o,o.cert)])) w5 lY ab (by rw[RO.o];omega);rw[RO.o,show 0+(fs.length+1-n)=8 from ab,List.take_zero,List.nil_append, <-List.map_drop]at ql;have Uc:=O ql;have HN:=O hn;have hce:=O (show xk p.eH o.aI.o o.cert=(fs++[(o.aI.o,o.cert)]).drop n by
     unfold xk;rw[<-TM.o,aM,show fs.length+[(o.aI.o,o.cert)].length-8=n from bF])
    have pM:(0:Int)<(fs.length:Int)+1-8:=ab;clear ql lY hn;go_wp2_with fail
    rw[show((fs.length:Int)+1-8)=(n:Int)from by have:=HN.o;omega];refine Uc.o.mono ?_;rintro e w7⟨rfl,Xq,oa⟩;clear Uc d5 e5;have Ky:Fr (own v5.cv) w5 w7:=oa.mono (fun k _ hk=>by rw[Vj.o,show k=g5 from hk];rfl);have hP7:=cX.eH I5.o AA5.o wR.o Xq Ky (fun k hk=>Or.inl (by rw[Vj.o];exact hk));have hB5:¬own v5.cv B:=fun hb=>I5.o.fa AA5.o.eG ag (Or.inr (Or.inr hb));have anV:=Ky.keep AA5.o.eG hB5
    have a7:gJ w7 B _ off v5:=AA5.o.fr Ky hB5;have d7:=a7.lU;have e7:=a7.free (off+2);rw[Vj.o]at d7;have r7:=O (eF I5.o (by obtain⟨_,_,h,_⟩:=hP7;exact h) R5.o dR ab);have HP:=O (show cX base w2 B cs off v {p with eH:=xk p.eH o.aI.o o.cert} _ from by
     rw[hce.o];exact gz F3.o FT3.o (gz F5.o FT5.o hP7))
    clear hP7 Xq oa Ky anV a7;go_wp2_with (first|((with_reducible refine cP 46 ?_);refine aF rfl 46 (.tmp 4) (.tmp 49) rfl (w.heap.size+1) #[.int .i64 1,.string ⟨#[]⟩,.int .i64 0] rfl rfl _ bQ r7.o (bd _ rfl) rfl bX ?_)|fail)
    refine aR (bh bw _ _ (w.heap.size+1) 46 #[.int .i64 1,.string ⟨#[]⟩,.int .i64 0] (0,0) _ rfl (aY _ (w.heap.size+1) _ _ _ _ r7.o) underlying46 rfl (bd _ rfl)) rfl ?_;unfold eD;rw[HR.o];exact⟨rfl,dw (HP.o.after fS.o) pU.o oM.o (bT _) r7.o eJ ag _⟩
   ·have Z':¬(8:Int)<(fs.length:Int)+1:=ab;have aqD:¬(0:Int)<(fs.length:Int)+1-8:=ab;have hce:=O (show xk p.eH o.aI.o o.cert=fs++[(o.aI.o,o.cert)]by
     unfold xk;rw[<-TM.o,aM,show fs.length+[(o.aI.o,o.cert)].length-8=0 from bF,eC])
    have HP:=O (show cX base w2 B cs off v {p with eH:=xk p.eH o.aI.o o.cert} w5 from by
     rw[hce.o];exact gz F3.o FT3.o ⟨v5,I5.o,F5.o,FT5.o,AA5.o.eG⟩)
    go_wp2_with (first|((with_reducible refine cP 46 ?_);refine aF rfl 46 (.tmp 4) (.tmp 49) rfl (w.heap.size+1) #[.int .i64 1,.string ⟨#[]⟩,.int .i64 0] rfl rfl _ bQ R5.o (bd _ rfl) rfl bX ?_)|fail)
    refine aR (bh bw _ _ (w.heap.size+1) 46 #[.int .i64 1,.string ⟨#[]⟩,.int .i64 0] (0,0) _ rfl (aY _ (w.heap.size+1) _ _ _ _ R5.o) underlying46 rfl (bd _ rfl)) rfl ?_;unfold eD;rw[HR.o];exact⟨rfl,dw (HP.o.after fS.o) pU.o oM.o (bT _) R5.o eJ ag _⟩
theorem Vk(base:Nat)(w:World)(B off:Nat)(cs:aX)(v:dm)(p:eB)(o:jB)(hs:List gU)(h:eO base w v p)(ha:gJ w B cs off v)(o8:base<=B)(hf:gL w o hs)(hk:mY p) :
  aC 48 #[.pointer (some ⟨B,off,none⟩),.agg o.cells.toArray] w (eD base w B cs off v (rE p (o.dP hs))):=by
 have uo:B<w.heap.size:=bg ha.eG;have FP:¬v.jM B:=h.fa ha.eG ag;obtain⟨ah,ch,gq⟩:=hf.gO;obtain⟨w2,ez⟩:∃w2,w2=(w.alloc (.cells o.cells.toArray 33)).alloc (.cells bQ 46):=⟨_,rfl⟩;have dD:Fr aW w w2:=by rw[ez];exact((ae aW w).alloc _).alloc _
 have k1:w2.heap[w.heap.size]?=some (.cells o.cells.toArray 33 (0,0)):=by rw[ez];exact((ae aW _).alloc _).keep (aB _ _) id
 have k2:w2.heap[w.heap.size+1]?=some (.cells bQ 46 (0,0)):=by
  have h:=aB (w.alloc (.cells o.cells.toArray 33)) (.cells bQ 46);rw[bM]at h;rw[ez];exact h
 have wO:w2.heap.size=w.heap.size+2:=by rw[ez];simp
 have US:=O (show∀U,Fr aW w2 U->U.heap[w.heap.size]?=some (.cells o.cells.toArray 33 (0,0))from fun U hU=>hU.keep k1 id);have B_:=O FP;have HH:=O h;have HA:=O ha;have HF:=O hf;have lg:=O gq;have HK:=O hk;have fS:=O dD;have mE:=O k1;have qx:=O k2;have pU:=O (show base<=w.heap.size from ab);have wR:=O o8;have oM:=O uo;have QE:=O ez
 obtain⟨a0,a1,a2,a3,a4,a5,a6,a7,a8,a9,jr,js,a12,jq,jt,i_,jD,jE,jF,jN,a20,a21⟩:=ed k1 gq;rw[ez]at a0 a1 a2 a3 a4 a5 a6 a7 a8 a9 jr js a12 jq jt i_ jD jE jF jN a20 a21;rw[dV gq]at ez a0 a1 a2 a3 a4 a5 a6 a7 a8 a9 jr js a12 jq jt i_ jD jE jF jN a20 a21 ⊢;unfold bQ at ez a0 a1 a2 a3 a4 a5 a6 a7 a8 a9 jr js a12 jq jt i_ jD jE jF jN a20 a21;have oz:=O ez
 obtain⟨w3,Th⟩:∃w3,w3=w2.alloc (.cells #[.bool o.aI.o.aG,.string o.aI.o.host,.int .i64 o.aI.o.port] 24):=⟨_,rfl⟩;have ik:Fr aW w2 w3:=by rw[Th];exact(ae aW w2).alloc _
 have k3:w3.heap[w2.heap.size]?=some (.cells #[.bool o.aI.o.aG,.string o.aI.o.host,.int .i64 o.aI.o.port] 24 (0,0)):=by rw[Th];exact aB _ _
 rw[wO]at k3;have ij:=O (fS.o.trans ik);have Q_:=O k3;have aiq:=O (US.o w3 ik);have adw:=O (ik.keep qx.o id);have Yr:=O Th;have H3:=O (HH.o.dt ij.o);have HA3:=O (HA.o.dt ij.o);have QR:=HK.o.rf;have M_:w3.heap.size=w.heap.size+1+1+1:=by rw[Th];simp;omega
 clear Th ik k3;clear ez gq dD k1 k2 h ha hf FP hk;go_enter func48,ntmps48;have hx:=oz;have rP:=oz.o;cases iE:o.all
 case true =>
  rw[iE]at rP;by_cases h9:o.what=9
  ·have HR:=O (show rE p (o.dP hs)=(x_,rep 1)by
    unfold rE;rw[aA];show(o.all&&o.what==9)=true;rw[iE,h9];rfl)
   have HP:=O (cX.fresh H3.o HA3.o wR.o);rw[M_]at HP;rw[h9]at rP;have He:gJ ((w3.alloc (.cells #[.slice none 0 0,.slice none 0 0] 118)).alloc (.cells #[.slice none 0 0] 121)) B cs off v:=HA3.o.dt (((ae aW w3).alloc _).alloc _);have c0:=He.cell0;have c1:=He.gV;have c2:=He.lU;have f0:=He.free off;have f1:=He.free (off+1);have f2:=He.free (off+2)
   have Ay:=O (um (um (um ((((ae aW w3).alloc (.cells #[.slice none 0 0,.slice none 0 0] 118)).alloc (.cells #[.slice none 0 0] 121)).keep adw.o id) (show w.heap.size+1≠B from ab) off (.pointer (some ⟨w.heap.size+1+1+1,0,none⟩))) (show w.heap.size+1≠B from ab) (off+1) (.pointer (some ⟨w.heap.size+1+1+1+1,0,none⟩))) (show w.heap.size+1≠B from ab) (off+2) (.slice none 0 0));clear He
   go_wp2_with (first|((with_reducible refine cP 94 ?_);have Nw:=hx;clear hx Nw;rw[<-rP];rw[<-Yr.o];generalize (w3.alloc (.cells #[.slice none 0 0,.slice none 0 0] 118)).alloc (.cells #[.slice none 0 0] 121)=W5 at *)|((with_reducible refine cP 46 ?_);refine aF rfl 46 (.tmp 4) (.tmp 24) rfl (w.heap.size+1) #[.int .i64 1,.string ⟨#[]⟩,.int .i64 0] rfl rfl _ bQ Ay.o (bd _ rfl) rfl bX ?_))
   refine aR (bh bw _ _ (w.heap.size+1) 46 #[.int .i64 1,.string ⟨#[]⟩,.int .i64 0] (0,0) _ rfl (aY _ (w.heap.size+1) _ _ _ _ Ay.o) underlying46 rfl (bd _ rfl)) rfl ?_;unfold eD;rw[HR.o];exact⟨rfl,dw (HP.o.after ij.o) pU.o oM.o (bT _) Ay.o eJ ag _⟩
  ·have t9:(o.what==9)=false:=aK.2 h9;clear h9;have HSW:=O (show∀U,Fr aW w3 U->aC 92 #[.pointer (some ⟨v.b,0,none⟩),.agg #[.bool o.aI.o.aG,.string o.aI.o.host,.int .i64 o.aI.o.port]] U (wE base U v.b v.gv v.wv p.bW p.waits o.aI.o)from fun U hU=>Fw base U v.b v.gv v.wv p.bW p.waits o.aI.o ((H3.o.dt hU).oW) ab)
   have F0:=O (show∀U,Fr (dh v.b v.gv v.wv) w3 U->(U.cell? ⟨B,off,none⟩=some (.pointer (some ⟨v.b,0,none⟩))/\U.cell? ⟨w.heap.size+2,0,none⟩=some (.bool o.aI.o.aG)/\U.cell? ⟨w.heap.size+2,1,none⟩=some (.string o.aI.o.host)/\U.cell? ⟨w.heap.size+2,2,none⟩=some (.int .i64 o.aI.o.port))from fun U hU=>by
    have j1:=HA3.o.fr hU (fun hb=>B_.o (Or.inl hb));have j2:=hU.keep Q_.o (fun hb=>by
     obtain⟨c,t,e,hk⟩:=H3.o.oW.h_ hb;rw[Q_.o]at e;cases e;revert hk;decide)
    exact⟨j1.cell0,by simp[World.cell?,j2]⟩)
   go_wp2_with fail
   rw[<-rP, <-Yr.o];clear a0 a1 a2 a3 a4 a5 a6 a7 a8 a9 jr js a12 jq jt i_ jD jE jF jN a20 a21 rP
   go_region_held3 (fun U=>Fr (dh v.b v.gv v.wv) w3 U/\U.cell? ⟨B,off,none⟩=some (.pointer (some ⟨v.b,0,none⟩))/\U.cell? ⟨w.heap.size+2,0,none⟩=some (.bool o.aI.o.aG)/\U.cell? ⟨w.heap.size+2,1,none⟩=some (.string o.aI.o.host)/\U.cell? ⟨w.heap.size+2,2,none⟩=some (.int .i64 o.aI.o.port)) ((refine(fun hU=>⟨hU,F0.o _ hU⟩) ?_;first|exact az (ae _ _)|assumption))
    ((first
     |(go_at_call 92;refine(HSW.o _ (az (ae _ _))).mono ?_;rintro e u4 ⟨rfl,tC⟩;have adx:Fr (dh v.b v.gv v.wv) w3 u4:=(az (ae _ _)).trans (by obtain⟨_,_,_,h,_⟩:=tC;exact h))))
   obtain⟨v4,i4,f4,KV,Vl⟩:=eP (H3.o.dt (az (ae aW w3))) (HA3.o.dt (az (ae aW w3))) B_.o tC;have a4:=ia HA3.o Vl;have o4:=eF (H3.o.dt (az (ae aW w3))) f4 (show w3.drew.heap[w.heap.size]?=_ from aiq.o) kZ ab;have r4:=eF (H3.o.dt (az (ae aW w3))) f4 (show w3.drew.heap[w.heap.size+1]?=_ from adw.o) dR ab;have g4:=eF (H3.o.dt (az (ae aW w3))) f4 (show w3.drew.heap[w.heap.size+2]?=_ from Q_.o) pB ab
   have I4:=O i4;have F4:=O f4;have FT4:=O KV;have AA4:=O a4;have O4:=O o4;have R4:=O r4;have G4:=O g4;obtain⟨a0,a1,a2,a3,a4,a5,a6,a7,a8,a9,jr,js,a12,jq,jt,i_,jD,jE,jF,jN,a20,a21⟩:=ed o4 lg.o;clear tC adx i4 f4 KV a4 o4 r4 g4 Vl F0 HSW;have HR:=O (show rE p (o.dP hs)=(vT p o.aI.o,rep 1)by
    unfold rE;rw[ar,ar]
    ·rfl
    ·show¬(o.what==9)=true;rw[t9];exact gA
    ·show¬(o.all&&o.what==9)=true;rw[t9,Bool.and_false];exact gA)
   have HP:=O (show cX base w3 B cs off v (vT p o.aI.o) u4 from cW (az (ae aW w3)) ⟨v4,I4.o,F4.o,FT4.o,AA4.o.eG⟩);go_wp2_with (first|((with_reducible refine cP 46 ?_);refine aF rfl 46 (.tmp 4) (.tmp 43) rfl (w.heap.size+1) #[.int .i64 1,.string ⟨#[]⟩,.int .i64 0] rfl rfl _ bQ R4.o (bd _ rfl) rfl bX ?_)|fail)
   refine aR (bh bw _ _ (w.heap.size+1) 46 #[.int .i64 1,.string ⟨#[]⟩,.int .i64 0] (0,0) _ rfl (aY u4 (w.heap.size+1) _ _ _ _ R4.o) underlying46 rfl (bd _ rfl)) rfl ?_;unfold eD;rw[HR.o];exact⟨rfl,dw (HP.o.after ij.o) pU.o oM.o (bT _) R4.o eJ ag _⟩
 case false =>
  rw[iE]at rP;have HSW:=O (show∀U,Fr aW w3 U->aC 92 #[.pointer (some ⟨v.b,0,none⟩),.agg #[.bool o.aI.o.aG,.string o.aI.o.host,.int .i64 o.aI.o.port]] U (wE base U v.b v.gv v.wv p.bW p.waits o.aI.o)from fun U hU=>Fw base U v.b v.gv v.wv p.bW p.waits o.aI.o ((H3.o.dt hU).oW) ab)
  have F0:=O (show∀U,Fr (dh v.b v.gv v.wv) w3 U->(U.cell? ⟨B,off,none⟩=some (.pointer (some ⟨v.b,0,none⟩))/\U.cell? ⟨w.heap.size+2,0,none⟩=some (.bool o.aI.o.aG)/\U.cell? ⟨w.heap.size+2,1,none⟩=some (.string o.aI.o.host)/\U.cell? ⟨w.heap.size+2,2,none⟩=some (.int .i64 o.aI.o.port))from fun U hU=>by
   have j1:=HA3.o.fr hU (fun hb=>B_.o (Or.inl hb));have j2:=hU.keep Q_.o (fun hb=>by
    obtain⟨c,t,e,hk⟩:=H3.o.oW.h_ hb;rw[Q_.o]at e;cases e;revert hk;decide)
   exact⟨j1.cell0,by simp[World.cell?,j2]⟩)
  go_wp2_with fail
  rw[<-rP, <-Yr.o];clear a0 a1 a2 a3 a4 a5 a6 a7 a8 a9 jr js a12 jq jt i_ jD jE jF jN a20 a21 rP
  go_region_held3 (fun U=>Fr (dh v.b v.gv v.wv) w3 U/\U.cell? ⟨B,off,none⟩=some (.pointer (some ⟨v.b,0,none⟩))/\U.cell? ⟨w.heap.size+2,0,none⟩=some (.bool o.aI.o.aG)/\U.cell? ⟨w.heap.size+2,1,none⟩=some (.string o.aI.o.host)/\U.cell? ⟨w.heap.size+2,2,none⟩=some (.int .i64 o.aI.o.port)) ((refine(fun hU=>⟨hU,F0.o _ hU⟩) ?_;first|exact az (ae _ _)|assumption))
   ((first
    |(go_at_call 92;refine(HSW.o _ (az (ae _ _))).mono ?_;rintro e u4 ⟨rfl,tC⟩;have adx:Fr (dh v.b v.gv v.wv) w3 u4:=(az (ae _ _)).trans (by obtain⟨_,_,_,h,_⟩:=tC;exact h))))
  obtain⟨v4,i4,f4,KV,Vl⟩:=eP (H3.o.dt (az (ae aW w3))) (HA3.o.dt (az (ae aW w3))) B_.o tC;have a4:=ia HA3.o Vl;have o4:=eF (H3.o.dt (az (ae aW w3))) f4 (show w3.drew.heap[w.heap.size]?=_ from aiq.o) kZ ab;have r4:=eF (H3.o.dt (az (ae aW w3))) f4 (show w3.drew.heap[w.heap.size+1]?=_ from adw.o) dR ab;have g4:=eF (H3.o.dt (az (ae aW w3))) f4 (show w3.drew.heap[w.heap.size+2]?=_ from Q_.o) pB ab
  have I4:=O i4;have F4:=O f4;have FT4:=O KV;have AA4:=O a4;have O4:=O o4;have R4:=O r4;have G4:=O g4;obtain⟨a0,a1,a2,a3,a4,a5,a6,a7,a8,a9,jr,js,a12,jq,jt,i_,jD,jE,jF,jN,a20,a21⟩:=ed o4 lg.o;clear tC adx i4 f4 KV a4 o4 r4 g4 Vl F0 HSW;by_cases h9:o.what=9
  ·have t9:(o.what==9)=true:=by rw[h9];rfl
   clear h9;have HR:=O (show rE p (o.dP hs)=(ML p o.aI.o,rep 1)by
    unfold rE;rw[ar,aA]
    ·rfl
    ·show(o.what==9)=true;exact t9
    ·show¬(o.all&&o.what==9)=true;rw[iE,kf];exact gA)
   have ur:=O (show∀U,Fr aW u4 U->aC 93 #[.pointer (some ⟨v4.k,0,none⟩),.agg #[.bool o.aI.o.aG,.string o.aI.o.host,.int .i64 o.aI.o.port]] U (tH base U v4.k v4.kv p.book (en.vS o.aI.o))from fun U hU=>MQ base U v4.k v4.kv p.book o.aI.o ((I4.o.dt hU).book) ab)
   have F0:=O (show∀U,Fr (ig v4.k v4.kv) u4 U->(U.cell? ⟨B,off+1,none⟩=some (.pointer (some ⟨v4.k,0,none⟩))/\U.cell? ⟨w.heap.size+2,0,none⟩=some (.bool o.aI.o.aG)/\U.cell? ⟨w.heap.size+2,1,none⟩=some (.string o.aI.o.host)/\U.cell? ⟨w.heap.size+2,2,none⟩=some (.int .i64 o.aI.o.port))from fun U hU=>by
    have j1:=AA4.o.fr hU (fun hb=>I4.o.fa AA4.o.eG ag (Or.inr (Or.inl hb)));have j2:=hU.keep G4.o (fun hb=>I4.o.fa G4.o pB (Or.inr (Or.inl hb)));exact⟨j1.gV,by simp[World.cell?,j2]⟩)
   go_wp2_with fail
   clear a0 a1 a2 a3 a4 a5 a6 a7 a8 a9 jr js a12 jq jt i_ jD jE jF jN a20 a21
   go_region_held3 (fun U=>Fr (ig v4.k v4.kv) u4 U/\U.cell? ⟨B,off+1,none⟩=some (.pointer (some ⟨v4.k,0,none⟩))/\U.cell? ⟨w.heap.size+2,0,none⟩=some (.bool o.aI.o.aG)/\U.cell? ⟨w.heap.size+2,1,none⟩=some (.string o.aI.o.host)/\U.cell? ⟨w.heap.size+2,2,none⟩=some (.int .i64 o.aI.o.port)) ((refine(fun hU=>⟨hU,F0.o _ hU⟩) ?_;first|exact az (ae _ _)|assumption))
    ((first
     |(go_at_call 93;refine(ur.o _ (az (ae _ _))).mono ?_;rintro e u5 ⟨rfl,Eu⟩;have anW:Fr (ig v4.k v4.kv) u4 u5:=(az (ae _ _)).trans (by obtain⟨_,_,h,_⟩:=Eu;exact h))))
   obtain⟨v5,i5,f5,KU,Vi⟩:=oJ (I4.o.dt (az (ae aW u4))) (AA4.o.dt (az (ae aW u4))) (I4.o.fa AA4.o.eG ag) Eu;have a5:=ia AA4.o Vi;have r5:=eF (I4.o.dt (az (ae aW u4))) f5 (show u4.drew.heap[w.heap.size+1]?=_ from R4.o) dR ab;have g5:=eF (I4.o.dt (az (ae aW u4))) f5 (show u4.drew.heap[w.heap.size+2]?=_ from G4.o) pB ab;have DR:=O (KT base u5 B off _ v5 _ o.aI.o i5 a5 wR.o)
   have l0:u5.cell? ⟨w.heap.size+2,0,none⟩=some (.bool o.aI.o.aG):=by simp[World.cell?,g5]
   have l1:u5.cell? ⟨w.heap.size+2,1,none⟩=some (.string o.aI.o.host):=by simp[World.cell?,g5]
   have l2:u5.cell? ⟨w.heap.size+2,2,none⟩=some (.int .i64 o.aI.o.port):=by simp[World.cell?,g5]
   have I5:=O i5;have F5:=O f5;have FT5:=O KU;have R5:=O r5;unfold gy.cells at DR;clear Eu anW i5 f5 KU a5 r5 g5 Vi F0 ur;go_wp2_with fail
   refine DR.o.mono ?_;rintro e u6⟨rfl,ZQ⟩;have Ig:=O (show u6.heap[w.heap.size+1]?=_ from eF I5.o (by obtain⟨_,_,h,_⟩:=ZQ;exact h) R5.o dR ab);have HP:=O (show cX base w3 B cs off v (ML p o.aI.o) u6 from cW (az (ae aW w3)) (gz F4.o FT4.o (cW (az (ae aW u4)) (gz F5.o FT5.o ZQ))));clear DR ZQ l0 l1 l2
   go_wp2_with (first|((with_reducible refine cP 46 ?_);refine aF rfl 46 (.tmp 4) (.tmp 43) rfl (w.heap.size+1) #[.int .i64 1,.string ⟨#[]⟩,.int .i64 0] rfl rfl _ bQ Ig.o (bd _ rfl) rfl bX ?_)|fail)
   refine aR (bh bw _ _ (w.heap.size+1) 46 #[.int .i64 1,.string ⟨#[]⟩,.int .i64 0] (0,0) _ rfl (aY u6 (w.heap.size+1) _ _ _ _ Ig.o) underlying46 rfl (bd _ rfl)) rfl ?_;unfold eD;rw[HR.o];exact⟨rfl,dw (HP.o.after ij.o) pU.o oM.o (bT _) Ig.o eJ ag _⟩
  ·have t9:(o.what==9)=false:=aK.2 h9;clear h9;have HR:=O (show rE p (o.dP hs)=(vT p o.aI.o,rep 1)by
    unfold rE;rw[ar,ar]
    ·rfl
    ·show¬(o.what==9)=true;rw[t9];exact gA
    ·show¬(o.all&&o.what==9)=true;rw[t9,Bool.and_false];exact gA)
   have HP:=O (show cX base w3 B cs off v (vT p o.aI.o) u4 from cW (az (ae aW w3)) ⟨v4,I4.o,F4.o,FT4.o,AA4.o.eG⟩);go_wp2_with (first|((with_reducible refine cP 46 ?_);refine aF rfl 46 (.tmp 4) (.tmp 43) rfl (w.heap.size+1) #[.int .i64 1,.string ⟨#[]⟩,.int .i64 0] rfl rfl _ bQ R4.o (bd _ rfl) rfl bX ?_)|fail)
   refine aR (bh bw _ _ (w.heap.size+1) 46 #[.int .i64 1,.string ⟨#[]⟩,.int .i64 0] (0,0) _ rfl (aY u4 (w.heap.size+1) _ _ _ _ R4.o) underlying46 rfl (bd _ rfl)) rfl ?_;unfold eD;rw[HR.o];exact⟨rfl,dw (HP.o.after ij.o) pU.o oM.o (bT _) R4.o eJ ag _⟩
theorem Ra(o:kn):(eN o).1=0\/(eN o).1=1\/(eN o).1=4\/(eN o).1=7\/(eN o).1=8\/(eN o).1=10:=by
 unfold eN;split
 ·split
  ·simp
  ·split
   ·simp
   ·split
    ·simp
    ·split
     ·simp
     ·split
      ·simp
      ·split<;>simp
 ·simp
theorem nr.take{f:d_}(h:nr x)(g:nr f)(part:Int)(c:Nat):nr (mz x f part c):=by
 unfold mz;split
 ·refine⟨⟨fun k=>?_,?_⟩,fun k=>?_,fun k=>?_⟩
  ·show mY (if k=part.toNat then uw c (x.part k) (f.part k)else x.part k);have a:=h.ok.part k;have b:=g.ok.part k;split
   ·unfold uw;cases c.testBit 0<;>cases c.testBit 1<;>cases c.testBit 2<;>exact⟨by first|exact a.uniq|exact b.uniq,by first|exact a.nat|exact b.nat,by first|exact a.rf.1|exact b.rf.1,by first|exact a.rf.2.1|exact b.rf.2.1,by first|exact a.rf.2.2.1|exact b.rf.2.2.1,by first|exact a.rf.2.2.2|exact b.rf.2.2.2⟩
   ·exact a
  ·show 0<=(if c.testBit 3=true then f.now else x.now)/\(if c.testBit 3=true then f.now else x.now)<=1099511627776;split
   ·exact g.ok.now
   ·exact h.ok.now
  ·show rF (if k=part.toNat then uw c (x.part k) (f.part k)else x.part k);have a:=h.sm k;have b:=g.sm k;split
   ·unfold uw;cases c.testBit 0<;>exact⟨by first|exact a.bW|exact b.bW,by first|exact a.waits|exact b.waits⟩
   ·exact a
  ·show mo (if k=part.toNat then uw c (x.part k) (f.part k)else x.part k);have a:=h.path k;have b:=g.path k;split
   ·unfold uw;cases c.testBit 0
    ·exact fun y hy=>a y hy
    ·exact fun y hy=>b y hy
   ·exact a
 ·exact h
def NG(n i:Nat):dm:=⟨n+1+2*i,.slice none 0 0,.slice none 0 0,n+2+2*i,.slice none 0 0,.slice none 0 0⟩
def Ze(n k i:Nat):aX:=if i<k then(NG n i).cells else [.pointer none,.pointer none,.slice none 0 0]
def Rl(n k:Nat):aX:=Ze n k 0++(Ze n k 1++(Ze n k 2++(Ze n k 3++[.int .i64 0])))
structure DU (w:World) (k:Nat) (W:World):Prop where
 fr:Fr aW w W
 eG:W.heap[w.heap.size]?=some (.cells (Rl w.heap.size k).toArray 97 (0,0))
 oW:∀i,i<k->W.heap[w.heap.size+1+2*i]?=some (.cells #[.slice none 0 0,.slice none 0 0] 118 (0,0))
 book:∀i,i<k->W.heap[w.heap.size+2+2*i]?=some (.cells #[.slice none 0 0] 121 (0,0))
 size:W.heap.size=w.heap.size+1+2*k
theorem Rm(n k:Nat)(hk:k<4):(((Rl n k).set (k*3) (.pointer (some ⟨n+1+2*k,0,none⟩))).set (k*3+1) (.pointer (some ⟨n+2+2*k,0,none⟩))).set (k*3+2) (.slice none 0 0)=Rl n (k+1):=by
 match k,hk with
 |0,_=>rfl
 |1,_=>rfl
 |2,_=>rfl
 |3,_=>rfl
theorem DU.step(h:DU w k W)(hk:k<4):DU w (k+1) (((((W.alloc (.cells #[.slice none 0 0,.slice none 0 0] 118)).alloc (.cells #[.slice none 0 0] 121)).setCell ⟨w.heap.size,k*3,none⟩ (.pointer (some ⟨W.heap.size,0,none⟩))).setCell ⟨w.heap.size,k*3+1,none⟩ (.pointer (some ⟨W.heap.size+1,0,none⟩))).setCell ⟨w.heap.size,k*3+2,none⟩ (.slice none 0 0)):=by
 obtain⟨V,hV⟩:∃V,V=(W.alloc (.cells #[.slice none 0 0,.slice none 0 0] 118)).alloc (.cells #[.slice none 0 0] 121):=⟨_,rfl⟩;have hf:Fr aW W V:=by rw[hV];exact((ae aW W).alloc _).alloc _
 have xg:V.heap[W.heap.size]?=some (.cells #[.slice none 0 0,.slice none 0 0] 118 (0,0)):=by rw[hV];exact((ae aW _).alloc _).keep (aB _ _) id
 have Lv:V.heap[W.heap.size+1]?=some (.cells #[.slice none 0 0] 121 (0,0)):=by
  have h:=aB (W.alloc (.cells #[.slice none 0 0,.slice none 0 0] 118)) (.cells #[.slice none 0 0] 121);rw[bM]at h;rw[hV];exact h
 have hvs:V.heap.size=W.heap.size+2:=by rw[hV];simp
 rw[<-hV];have pI:=hf.keep h.eG id;have Eb:Fr (one w.heap.size) V (((V.setCell ⟨w.heap.size,k*3,none⟩ (.pointer (some ⟨W.heap.size,0,none⟩))).setCell ⟨w.heap.size,k*3+1,none⟩ (.pointer (some ⟨W.heap.size+1,0,none⟩))).setCell ⟨w.heap.size,k*3+2,none⟩ (.slice none 0 0)) :=
  (((ae (one w.heap.size) V).setCell (p:=⟨w.heap.size,k*3,none⟩) (fun _=>rfl) _).setCell (p:=⟨w.heap.size,k*3+1,none⟩) (fun _=>rfl) _).setCell (p:=⟨w.heap.size,k*3+2,none⟩) (fun _=>rfl) _
 have e1:=b_ pI (k*3) (.pointer (some ⟨W.heap.size,0,none⟩));have e2:=b_ e1 (k*3+1) (.pointer (some ⟨W.heap.size+1,0,none⟩));have e3:=b_ e2 (k*3+2) (.slice none 0 0);have xx:=h.size;have OE:=Rm w.heap.size k hk;rw[show w.heap.size+1+2*k=W.heap.size from ab,show w.heap.size+2+2*k=W.heap.size+1 from ab]at OE;refine⟨?_,?_,fun i hi=>?_,fun i hi=>?_,?_⟩
 ·exact(((h.fr.trans hf).gI (p:=⟨w.heap.size,k*3,none⟩) (ay _) _).gI (p:=⟨w.heap.size,k*3+1,none⟩) (ay _) _).gI (p:=⟨w.heap.size,k*3+2,none⟩) (ay _) _
 ·rw[e3, <-OE];simp
 ·refine Eb.keep ?_ (fun e=>by have e':w.heap.size+1+2*i=w.heap.size:=e;omega);by_cases Lp:i<k
  ·exact hf.keep (h.oW i Lp) id
  ·rw[show w.heap.size+1+2*i=W.heap.size from ab];exact xg
 ·refine Eb.keep ?_ (fun e=>by have e':w.heap.size+2+2*i=w.heap.size:=e;omega);by_cases Lp:i<k
  ·exact hf.keep (h.book i Lp) id
  ·rw[show w.heap.size+2+2*i=W.heap.size+1 from ab];exact Lv
 ·have e:(((V.setCell ⟨w.heap.size,k*3,none⟩ (.pointer (some ⟨W.heap.size,0,none⟩))).setCell ⟨w.heap.size,k*3+1,none⟩ (.pointer (some ⟨W.heap.size+1,0,none⟩))).setCell ⟨w.heap.size,k*3+2,none⟩ (.slice none 0 0)).heap.size=V.heap.size:=by simp[World.setCell]
  rw[e];omega
theorem DU.done(h:DU w 4 W)(hb:base<=w.heap.size):df base W w.heap.size (NG w.heap.size) G3:=by
 refine⟨hb,h.eG,fun i hi=>⟨⟨?_,h.oW i hi,⟨[],dr _ _ _ _,.nil⟩,⟨[],dr _ _ _ _,.nil⟩⟩,⟨?_,h.book i hi,dr _ _ _ _⟩,dr _ _ _ _⟩,fun i j hi hj Px k hk XO=>?_⟩
 ·show base<=w.heap.size+1+2*i;omega
 ·show base<=w.heap.size+2+2*i;omega
 ·have key:∀a,(NG w.heap.size a).jM k->k=w.heap.size+1+2*a\/k=w.heap.size+2+2*a:=by
   rintro a(q|q|q)
   ·rcases q with q|q|q
    ·exact Or.inl q
    ·simp[NG,own,Value.ownBlock]at q
    ·simp[NG,own,Value.ownBlock]at q
   ·rcases q with q|q
    ·exact Or.inr q
    ·simp[NG,own,Value.ownBlock]at q
   ·simp[NG,own,Value.ownBlock]at q
  have h1:=key i hk;have h2:=key j XO;omega
def aiB(w:World)(t:Value)(wr:World):Prop:=∃k:Nat,k<=4/\t=.int .i64 k/\DU w k wr
theorem Zf(w:World):aC 32 #[] w fun e w'=>∃B pv,e=.returned (.pointer (some ⟨B,0,none⟩))/\(∀base,base<=w.heap.size->df base w' B pv G3)/\Fr aW w w':=by
 have h0:DU w 0 (w.alloc (.cells #[.pointer none,.pointer none,.slice none 0 0,.pointer none,.pointer none,.slice none 0 0,.pointer none,.pointer none,.slice none 0 0,.pointer none,.pointer none,.slice none 0 0,.int .i64 0] 97)) :=
  ⟨(ae aW w).alloc _,aB _ _,fun i hi=>absurd hi (cq i),fun i hi=>absurd hi (cq i),aQ⟩
 have H0:=O h0;clear h0;go_enter func32,ntmps32;go_wp2_with fail
 go_loopw[5] (aiB w) (fun i _=>4-(intOf i).toNat)
 case atStart=>exact⟨0,aS _,rfl,H0.o⟩
 case round =>
  obtain⟨k,hk,rfl,hn⟩:=hrel;by_cases fx:k<4
  ·have qp:(k:Int)<4:=ab;have HN:=O (hn.step fx);have hb:=hn.eG;have Bp:w.heap.size<wr.heap.size:=bg hb;have Uw:¬(k:Int)<0:=ab;have am_:(0:Int)<=(k:Int):=ab;have La:=(((ae aW wr).alloc (.cells #[.slice none 0 0,.slice none 0 0] 118)).alloc (.cells #[.slice none 0 0] 121)).keep hb id
   obtain⟨q0,q1,q2⟩:(Rl w.heap.size k)[k*3]?=some (.pointer none)/\(Rl w.heap.size k)[k*3+1]?=some (.pointer none)/\(Rl w.heap.size k)[k*3+2]?=some (.slice none 0 0):=by
    match k,fx with
    |0,_=>exact⟨rfl,rfl,rfl⟩
    |1,_=>exact⟨rfl,rfl,rfl⟩
    |2,_=>exact⟨rfl,rfl,rfl⟩
    |3,_=>exact⟨rfl,rfl,rfl⟩
   have c0:((wr.alloc (.cells #[.slice none 0 0,.slice none 0 0] 118)).alloc (.cells #[.slice none 0 0] 121)).cell? ⟨w.heap.size,k*3,none⟩=some (.pointer none):=by simp[World.cell?,La,q0]
   have c1:((wr.alloc (.cells #[.slice none 0 0,.slice none 0 0] 118)).alloc (.cells #[.slice none 0 0] 121)).cell? ⟨w.heap.size,k*3+1,none⟩=some (.pointer none):=by simp[World.cell?,La,q1]
   have c2:((wr.alloc (.cells #[.slice none 0 0,.slice none 0 0] 118)).alloc (.cells #[.slice none 0 0] 121)).cell? ⟨w.heap.size,k*3+2,none⟩=some (.slice none 0 0):=by simp[World.cell?,La,q2]
   have f0:∀j,((wr.alloc (.cells #[.slice none 0 0,.slice none 0 0] 118)).alloc (.cells #[.slice none 0 0] 121)).frozen? ⟨w.heap.size,j,none⟩=false:=fun j=>by simp[World.frozen?,La]
   have f1:=f0 (k*3);have f2:=f0 (k*3+1);have f3:=f0 (k*3+2);have hx:=HN;clear hn H0 La q0 q1 q2 f0 hb;go_wp2_with (first|((with_reducible refine cP 94 ?_);have Nw:=hx;clear hx Nw;generalize (wr.alloc (.cells #[.slice none 0 0,.slice none 0 0] 118)).alloc (.cells #[.slice none 0 0] 121)=W5 at *)|fail)
   go_roundw
   case rel=>exact⟨k+1,ab,bf,HN.o⟩
   case measure=>simp[intOf];omega
  ·have Jv:k=4:=ab;subst Jv;have HD:=O (fun base hb=>hn.done (base:=base) hb);have uf:=O hn.fr;clear hn H0;go_wp2;go_ret;exact⟨_,_,rfl,HD.o,uf.o⟩
theorem mD(t:gB)(n:Nat)(x:ux):(t.put n x).tab n=x:=by unfold gB.put;simp
theorem wN(t:gB)(x:ux)(h:m≠n):(t.put n x).tab m=t.tab m:=by unfold gB.put;simp[h]
theorem DW(t:gB)(n:Nat)(r:ky)(h:m≠n):(mA t n r).tab m=t.tab m:=by unfold mA;simp[h]
structure sV where
 kind:Int
 tab:Int
 o:jB
 hs:List gU
def sV.cells(m:sV):aX:=.int .i64 m.kind :: .int .i64 m.tab :: m.o.cells
structure qo where
 o:jB
 hs:List gU
 sp:Value
def pW(r:ky):aX:=[.int .i64 r.what,.string r.head,.int .i64 r.cert]
def kM(f:Nat->Nat->Int):aX:=[.int .i64 (f 0 0),.int .i64 (f 0 1),.int .i64 (f 0 2),.int .i64 (f 0 3),.int .i64 (f 1 0),.int .i64 (f 1 1),.int .i64 (f 1 2),.int .i64 (f 1 3),.int .i64 (f 2 0),.int .i64 (f 2 1),.int .i64 (f 2 2),.int .i64 (f 2 3),.int .i64 (f 3 0),.int .i64 (f 3 1),.int .i64 (f 3 2),.int .i64 (f 3 3)]
def mN(x:ux)(v:qo):aX:=.int .i64 x.does :: (v.o.cells++(.int .i64 x.fails :: .int .i64 x.mM :: v.sp :: (kM x.num++pW x.iI)))
theorem pX(x:ux)(v:qo):(mN x v).length=45:=rfl
theorem nu(f:Nat->Nat->Int):(kM f).length=16:=rfl
theorem O2(f:Nat->Nat->Int)(hp:p<4)(hi:i<4):(kM f)[p*4+i]?=some (.int .i64 (f p i)):=by
 rcases(show p=0\/p=1\/p=2\/p=3 from ab)with rfl|rfl|rfl|rfl<;>rcases(show i=0\/i=1\/i=2\/i=3 from ab)with rfl|rfl|rfl|rfl<;>rfl
structure fU (U:World) (T B:Nat) (g:Nat->qo) (sv:Value) (t:gB):Prop where
 eG:∃cs,U.heap[T]?=some (.cells cs 78 (0,0))/\cs.size=289
 main:U.cell? ⟨T,0,none⟩=some (.pointer (some ⟨B,0,none⟩))
 num:U.rangeAt T 1 (kM t.num)
 tab:∀n,n<6->U.rangeAt T (17+n*45) (mN (t.tab n) (g n))
 steps:U.cell? ⟨T,287,none⟩=some (.int .i64 t.steps)
 st:U.cell? ⟨T,288,none⟩=some sv
section
variable {U U' : World} {T B : Nat} {g : Nat → qo} {sv : Value} {t : gB}
theorem lO{p:Addr}(h:w.cell? p=some u)(hf:Fr S w U)(hn:¬S p.block):U.cell? p=some u:=by
 unfold World.cell? at h ⊢;cases hb:w.heap[p.block]? with
 |none=>rw[hb]at h;cases h
 |some o=>rw[hb]at h;rw[hf.keep hb hn];exact h
theorem pH(h:w.rangeAt b o cs)(hf:Fr S w U)(hn:¬S b):U.rangeAt b o cs:=fun j v hv=>lO (h j v hv) hf hn
theorem fU.fr(h:fU U T B g sv t)(hf:Fr S U U')(hn:¬S T):fU U' T B g sv t:=by
 obtain⟨cs,hb,hs⟩:=h.eG;exact⟨⟨cs,hf.keep hb hn,hs⟩,lO h.main hf hn,pH h.num hf hn,fun n hl=>pH (h.tab n hl) hf hn,lO h.steps hf hn,lO h.st hf hn⟩
theorem fU.lt(h:fU U T B g sv t):T<U.heap.size:=by obtain⟨cs,hb,_⟩:=h.eG;exact bg hb
theorem fU.there(h:fU U T B g sv t)(hn:o+n<=289):U.there T o n:=by
 obtain⟨cs,hb,hs⟩:=h.eG;intro j hj;have hl:o+j<cs.size:=ab;exact⟨by simp[World.cell?,hb,hl],by simp[World.frozen?,hb]⟩
theorem fU.free(h:fU U T B g sv t)(k:Nat):U.frozen? ⟨T,k,none⟩=false:=by
 obtain⟨cs,hb,_⟩:=h.eG;simp[World.frozen?,hb]
theorem lA(T:Nat)(ty:TypeId)(n:Nat):∀(vs:aX) (o:Nat) (U:World),(∃cs,U.heap[T]?=some (.cells cs ty (0,0))/\cs.size=n)->∃cs,(U.setCells T o vs).heap[T]?=some (.cells cs ty (0,0))/\cs.size=n
 |[],_,_,h=>h
 |v :: r,o,U,⟨cs,hb,hs⟩=>by
  rw[World.setCells];exact lA T ty n r (o+1) _ ⟨_,b_ hb o v,by simpa using hs⟩
theorem mB{a:World}(T:Nat):∀(vs:aX) (o:Nat) (U:World),Fr (one T) a U->Fr (one T) a (U.setCells T o vs)
 |[],_,_,h=>h
 |v :: r,o,U,h=>by
  rw[World.setCells];exact mB T r (o+1) _ (h.setCell (p:=⟨T,o,none⟩) (fun _=>rfl) v)
theorem eQ{vs:aX}(h:U.cell? ⟨T,k,none⟩=some u)(Xb:k<o\/o+vs.length<=k):(U.setCells T o vs).cell? ⟨T,k,none⟩=some u:=by
 rw[World.cell?_setCells_out T vs o U ⟨T,k,none⟩ (fun _ _=>Xb)];exact h
theorem fU.Nf(h:fU U T B g sv t)(hn:n<6)(x:ux)(v:qo):fU (U.setCells T (17+n*45) (mN x v)) T B (fun i=>if i=n then v else g i) sv (t.put n x)/\Fr (one T) U (U.setCells T (17+n*45) (mN x v)):=by
 have hl:=pX x v;refine⟨⟨lA T _ _ _ _ _ h.eG,eQ h.main (Or.inl ab),bV h.num _ _ _ (Or.inr (Or.inl (by rw[nu];omega))),fun m hm=>?_,eQ h.steps (Or.inr ab),eQ h.st (Or.inr ab)⟩,mB T _ _ _ (ae _ _)⟩;by_cases e:m=n
 ·subst e;show World.rangeAt _ T (17+m*45) (mN (if m=m then x else t.tab m) (if m=m then v else g m));rw[aA rfl,aA rfl];exact World.rangeAt_setCells_same _ _ _ _ (h.there (by rw[hl];omega))
 ·show World.rangeAt _ T (17+m*45) (mN (if m=n then x else t.tab m) (if m=n then v else g m));rw[ar e,ar e];exact bV (h.tab m hm) _ _ _ (by
   right;rw[hl,pX];rcases fC m n with q|q
   ·left;omega
   ·right;omega)
theorem FW(h:U.rangeAt T o cs)(hj:j<cs.length):(U.setCell ⟨T,o+j,none⟩ v).rangeAt T o (cs.set j v):=by
 intro k u hk;have hc:=h j _ (List.getElem?_eq_getElem hj);by_cases e:k=j
 ·subst e;rw[List.getElem?_set_self hj]at hk;cases hk;exact World.cell?_setCell_same' U ⟨T,o+k,none⟩ _ (by rw[hc];rfl)
 ·rw[List.getElem?_set_ne (kH e)]at hk;rw[World.cell?_setCell_other U ⟨T,o+j,none⟩ ⟨T,o+k,none⟩ v (fun q=>e (by injection q with q1 q2;omega))];exact h k u hk
theorem fU.B'(h:fU U T B g sv t)(hn:n<6)(hj:j<45)(v:Value){x:ux}{w:qo}(hx:(mN (t.tab n) (g n)).set j v=mN x w):fU (U.setCell ⟨T,17+n*45+j,none⟩ v) T B (fun i=>if i=n then w else g i) sv (t.put n x)/\Fr (one T) U (U.setCell ⟨T,17+n*45+j,none⟩ v):=by
 have hl:([v]:aX).length=1:=rfl;refine⟨⟨lA T _ _ [v] _ _ h.eG,eQ (vs:=[v]) h.main (Or.inl ab),bV h.num T (17+n*45+j) [v] (Or.inr (Or.inl (by rw[nu];omega))),fun m hm=>?_,eQ (vs:=[v]) h.steps (Or.inr ab),eQ (vs:=[v]) h.st (Or.inr ab)⟩,mB T [v] _ _ (ae _ _)⟩;by_cases e:m=n
 ·subst e;show World.rangeAt _ T (17+m*45) (mN (if m=m then x else t.tab m) (if m=m then w else g m));rw[aA rfl,aA rfl, <-hx];exact FW (h.tab m hm) (by rw[pX];exact hj)
 ·show World.rangeAt _ T (17+m*45) (mN (if m=n then x else t.tab m) (if m=n then w else g m));rw[ar e,ar e];exact bV (h.tab m hm) T (17+n*45+j) [v] (by
   right;rw[hl,pX];rcases fC m n with q|q
   ·left;omega
   ·right;omega)
theorem fU.DK(h:fU U T B g sv t)(k:Int):fU (U.setCell ⟨T,287,none⟩ (.int .i64 k)) T B g sv {t with steps:=k}/\Fr (one T) U (U.setCell ⟨T,287,none⟩ (.int .i64 k)):=by
 refine⟨⟨lA T _ _ [_] _ _ h.eG,eQ (vs:=[_]) h.main (Or.inl ag),bV h.num T 287 [_] (Or.inr (Or.inl (by rw[nu];decide))),fun m hm=>bV (h.tab m hm) T 287 [_] (Or.inr (Or.inl (by rw[pX];omega))),?_,eQ (vs:=[_]) h.st (Or.inr (ay _))⟩,mB T [_] _ _ (ae _ _)⟩;exact World.cell?_setCell_same' U ⟨T,287,none⟩ _ (by rw[h.steps];rfl)
theorem fU.U7(h:fU U T B g sv t)(v:Value)(s:List U5):fU (U.setCell ⟨T,288,none⟩ v) T B g v {t with fO:=s}/\Fr (one T) U (U.setCell ⟨T,288,none⟩ v):=by
 refine⟨⟨lA T _ _ [_] _ _ h.eG,eQ (vs:=[_]) h.main (Or.inl ag),bV h.num T 288 [_] (Or.inr (Or.inl (by rw[nu];decide))),fun m hm=>bV (h.tab m hm) T 288 [_] (Or.inr (Or.inl (by rw[pX];omega))),eQ (vs:=[_]) h.steps (Or.inl ag),?_⟩,mB T [_] _ _ (ae _ _)⟩;exact World.cell?_setCell_same' U ⟨T,288,none⟩ _ (by rw[h.st];rfl)
theorem fU.ada(h:fU U T B g sv t)(hp:p<4)(hi:i<4)(v:Int){f:Nat->Nat->Int}(hf:(kM t.num).set (p*4+i) (.int .i64 v)=kM f):fU (U.setCell ⟨T,1+(p*4+i),none⟩ (.int .i64 v)) T B g sv {t with num:=f}/\Fr (one T) U (U.setCell ⟨T,1+(p*4+i),none⟩ (.int .i64 v)):=by
 refine⟨⟨lA T _ _ [_] _ _ h.eG,eQ (vs:=[_]) h.main (Or.inl ab),?_,fun m hm=>bV (h.tab m hm) T (1+(p*4+i)) [_] (Or.inr (Or.inr (by show 1+(p*4+i)+1<=_;omega))),eQ (vs:=[_]) h.steps (Or.inr (by show 1+(p*4+i)+1<=_;omega)),eQ (vs:=[_]) h.st (Or.inr (by show 1+(p*4+i)+1<=_;omega))⟩,mB T [_] _ _ (ae _ _)⟩;show World.rangeAt _ T 1 (kM f);rw[<-hf];exact FW h.num (by rw[nu];omega)
end
theorem step1(h:(t.tab n).does=1):stepT t n=({(t.put n {t.tab n with seen:=t.w,num:=t.num,does:=2})with steps:=t.steps+1},rep 0,false):=by unfold stepT;rw[aA h]
theorem step2(h:(t.tab n).does=2):stepT t n=({(t.put n {t.tab n with iI:=(mX (t.tab n).seen (t.tab n).op).2,seen:=(mX (t.tab n).seen (t.tab n).op).1,does:=3})with steps:=t.steps+1},rep 0,false):=by unfold stepT;rw[ar ab,aA h]
theorem aaV(h:(t.tab n).does=3):stepT t n=jc {t with steps:=t.steps+1} n:=by unfold stepT;rw[ar ab,ar ab]
def wW(x:ux):Nat:=3*(3-x.fails)+(4-x.does)
theorem VJ(h1:1<=(t.tab n).does)(h3:(t.tab n).does<=3)(hf:(t.tab n).fails<=3) :
  (stepT t n).2.2=true\/((stepT t n).2.2=false/\1<=((stepT t n).1.tab n).does/\((stepT t n).1.tab n).does<=3/\((stepT t n).1.tab n).fails<=3/\wW ((stepT t n).1.tab n)+1=wW (t.tab n)):=by
 rcases(show(t.tab n).does=1\/(t.tab n).does=2\/(t.tab n).does=3 from ab)with h|h|h
 ·right;rw[step1 h];have e:({(t.put n {t.tab n with seen:=t.w,num:=t.num,does:=2})with steps:=t.steps+1}:gB).tab n={t.tab n with seen:=t.w,num:=t.num,does:=2}:=mD t n _
  show false=false/\1<=(({(t.put n {t.tab n with seen:=t.w,num:=t.num,does:=2})with steps:=t.steps+1}:gB).tab n).does/\(({(t.put n {t.tab n with seen:=t.w,num:=t.num,does:=2})with steps:=t.steps+1}:gB).tab n).does<=3/\(({(t.put n {t.tab n with seen:=t.w,num:=t.num,does:=2})with steps:=t.steps+1}:gB).tab n).fails<=3/\wW (({(t.put n {t.tab n with seen:=t.w,num:=t.num,does:=2})with steps:=t.steps+1}:gB).tab n)+1=wW (t.tab n)
  rw[e];unfold wW;simp only;exact⟨trivial,ab,ab,hf,ab⟩
 ·right;rw[step2 h];have e:({(t.put n {t.tab n with iI:=(mX (t.tab n).seen (t.tab n).op).2,seen:=(mX (t.tab n).seen (t.tab n).op).1,does:=3})with steps:=t.steps+1}:gB).tab n={t.tab n with iI:=(mX (t.tab n).seen (t.tab n).op).2,seen:=(mX (t.tab n).seen (t.tab n).op).1,does:=3}:=mD t n _
  generalize hT:({(t.put n {t.tab n with iI:=(mX (t.tab n).seen (t.tab n).op).2,seen:=(mX (t.tab n).seen (t.tab n).op).1,does:=3})with steps:=t.steps+1}:gB)=T at e ⊢;show false=false/\1<=(T.tab n).does/\(T.tab n).does<=3/\(T.tab n).fails<=3/\wW (T.tab n)+1=wW (t.tab n);rw[e];unfold wW;simp only;exact⟨trivial,ab,ab,hf,ab⟩
 ·rw[aaV h];unfold jc;split
  ·exact Or.inl rfl
  ·split
   ·right;rename_i dD;have ik:(t.tab n).fails+1<=3:=dD;have e:(gB.put {t with steps:=t.steps+1} n {t.tab n with fails:=(t.tab n).fails+1,does:=1}).tab n={t.tab n with fails:=(t.tab n).fails+1,does:=1}:=mD _ n _
    show false=false/\1<=((gB.put {t with steps:=t.steps+1} n {t.tab n with fails:=(t.tab n).fails+1,does:=1}).tab n).does/\((gB.put {t with steps:=t.steps+1} n {t.tab n with fails:=(t.tab n).fails+1,does:=1}).tab n).does<=3/\((gB.put {t with steps:=t.steps+1} n {t.tab n with fails:=(t.tab n).fails+1,does:=1}).tab n).fails<=3/\wW ((gB.put {t with steps:=t.steps+1} n {t.tab n with fails:=(t.tab n).fails+1,does:=1}).tab n)+1=wW (t.tab n)
    rw[e];unfold wW;simp only;exact⟨trivial,ab,ab,ik,ab⟩
   ·exact Or.inl rfl
theorem Zl{x:ux}(h3:x.does<=3):1<=wW x:=by unfold wW;omega
theorem NK(h:m≠n):(stepT t n).1.tab m=t.tab m:=by
 unfold stepT;split
 ·exact wN t _ h
 ·split
  ·exact wN t _ h
  ·unfold jc;split
   ·split
    ·exact DW _ _ _ h
    ·exact DW _ _ _ h
   ·split
    ·exact wN _ _ h
    ·exact(DW _ _ _ h).trans (wN _ _ h)
theorem DY{m:Wu}(h:m.tab≠(n:Int)):(sx t m).tab n=t.tab n:=by
 have key:vX m.tab=true->n≠m.tab.toNat:=fun ho e=>h (by
  unfold vX at ho;simp only[cy,dx]at ho;omega)
 unfold sx;split
 ·unfold uZ;split
  ·rename_i ho;split
   ·exact wN t _ (key ho)
   ·rfl
  ·rfl
 ·split
  ·unfold qN;split
   ·rename_i ho;split
    ·rfl
    ·exact wN t _ (key ho)
   ·rfl
  ·split
   ·unfold jO;split
    ·rename_i ho;split
     ·rfl
     ·exact NK (key ho)
    ·rfl
   ·rfl
open Go.ChangeShapes Go.WideShapes Go.ChangeAt Go.RowKit Go.Deep
structure uC (w:World) (v:Value) (ms:List sV):Prop where
 rows:eb 24 w v (ms.map sV.cells)
 fit:∀m∈ms,gL w m.o m.hs
theorem uC.dt{w':World}{ms:List sV}(h:uC w v ms)(hf:Fr aW w w'):uC w' v ms:=⟨bG h.rows hf,fun m hm=>(h.fit m hm).dt hf⟩
variable {H : Type} {enc : TypeId × Value → H} {W : World}
structure zK (w:World) (m:sV):Prop where
 op:sD w m.o m.hs
 kind:(Lit.int .i64 m.kind).wf=true
 tab:(Lit.int .i64 m.tab).wf=true
abbrev wh(w:World)(v:Value)(ms:List sV):Prop:=eb 24 w v (ms.map sV.cells)/\ms.length<=140737488355328/\∀m∈ms,zK w m
theorem Li:prog.cellsOf 50=24:=af
theorem aiN{α:Type}{l:List α}(h:l.length=24):∃(a0 a1:α) (r:List α),l=a0 :: a1 :: r/\r.length=22:=by
 match l,h with
 |a0 :: a1 :: r,h=>exact⟨a0,a1,r,rfl,by simpa using h⟩
theorem Zm{fuel:Nat}{x:DataW H×List MemPlace}(h:DataW.trod enc prog W 0 (fun _=>true) true fuel 50 cs=some x) :
  ∃b:sV,cs=b.cells/\cs.length=24/\(∀u∈cs,u.oneCell'=true)/\(oO prog 50 x.1->zK W b):=by
 obtain⟨hl,n,hf⟩:=nP underlying50 h;rw[Li]at hl;obtain⟨c0,c1,cr,rfl,hcr⟩:=aiN hl;obtain⟨y0,h0,l0⟩:=hf 0 3 0 _ rfl pC;obtain⟨y1,h1,l1⟩:=hf 1 3 1 _ rfl pC;obtain⟨y2,h2,l2⟩:=hf 2 33 2 _ rfl Lh;simp only[List.drop,List.take]at h0 h1 h2;rw[aD ab]at h2;obtain⟨b0,e0,w0⟩:=kq underlying3 h0;obtain⟨b1,e1,w1⟩:=kq underlying3 h1;obtain⟨b2,e2,_,o2,s2⟩:=O' h2;simp only[fA,iy]at e0 e1;subst e0 e1
 refine⟨⟨b0,b1,b2.1,b2.2⟩,by rw[e2];rfl,hl,fun u hu=>?_,fun hL=>⟨s2 (l2 hL),w0,w1⟩⟩;rcases bu.1 hu with rfl|hu
 ·rfl
 rcases bu.1 hu with rfl|hu
 ·rfl
 ·exact o2 u hu
instance:Inhabited sV:=⟨⟨0,0,(default:jB×List gU).1,[]⟩⟩
theorem Bn{d:DataW H}{p:List MemPlace}(hv:Value.okWide prog W .any base 22 v)(h:DataW.Trod enc prog W 0 (fun _=>true) true 22 v d p)(hL:oO prog 22 d) :
  ∃ms:List sV,wh W v ms:=by
 obtain⟨a,len,cap,rfl⟩:=okWide_slice underlying22 hv;obtain⟨fuel,hf⟩:=h;obtain⟨v',css,bs,e,hr,hb,hs⟩:=D1 (Q:=fun cs (b:sV)=>cs=b.cells) (S:=fun b=>zK W b) underlying22 Li ag (by kernel_rfl:prog.bytesOf 50=288) Zm hf;simp only[Value.cells,fA,iy]at e;subst e;rw[D2 hb]at hr;have h2:=hs hL;refine⟨bs,hr,?_,h2.2⟩;have hk:reachBytes=140737488351232:=rfl;have:=h2.1;omega
