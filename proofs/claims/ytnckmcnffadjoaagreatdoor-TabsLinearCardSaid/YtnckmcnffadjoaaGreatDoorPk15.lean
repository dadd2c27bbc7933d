/- Lemmas for the law's walk. -/
import Derived.Test.YtnckmcnffadjoaaGreatDoorPk14
import Derived.Test.YtnckmcnffadjoaaGreatDoorPk24
set_option maxRecDepth 100000
set_option maxHeartbeats 16000000
set_option linter.unusedSimpArgs false
namespace Go.Proofs.YtnckmcnffadjoaaGreatDoor
open Go.Proofs.Tryz
open Go.RowKit
variable {M c fuel ch B base p i:Nat} {ps:List jF} {l:List nA} {gs:List (aQ bE)} {cs:aZ} {w:World} {o:iE} {hs:List ig} {n:Int} {t:TypeId} {ah:eO} {v:cY} {s:dD}
def Hd(a:fQ bE):Prop:=a.aM.size<=3000/\a.bu.size<=3000/\a.cz.size<=3000/\a.dom.length<=3001
def V8(g:aQ bE):Prop:=Hd g.a/\g.user.size<=5000/\g.pass.size<=5000
theorem Jh(h:xA M ps){n v:Bs}(e:kB ps n=some v):v.length<=M:=by
 unfold kB at e;cases hf:ps.find? (fun p=>dL p.1 n)with
 |none=>rw[hf]at e;cases e
 |some p =>
  rw[hf]at e;obtain rfl:p.2=v:=by simpa using e
  exact(h p (List.mem_of_find?_eq_some hf)).2
theorem QI(h:xA M ps)(n:Bs):((kB ps n).getD []).length<=M:=by
 cases e:kB ps n with
 |none=>exact aL _
 |some v=>exact Jh h e
theorem Cn(c:UInt8):∀l:Bs,(eh c l).length<=l.length+1
 |[]=>by simp[eh]
 |x :: l=>by
  have ih:=Cn c l;by_cases hx:x=c
  ·subst hx;rw[rL];simp;exact ih
  ·cases e:eh c l with
   |nil=>exact absurd e (xr c l)
   |cons p ps =>
    rw[ot hx e];rw[e]at ih;simp at ih ⊢; omega
theorem Sj(d:Bs):(Iv d).length<=d.length+1:=by
 unfold Iv;rw[ai];exact aE (bW _ _) (Cn 32 d)
theorem Sk{x:nA}{a:fQ bE}(hx:x.Le 3000)(h:nr x=some a):Hd a:=by
 have hp:=hx.zH;unfold nr at h;split at h
 ·cases h
 rename_i aM hr;have h1:=Jh hp hr;split at h
 ·cases h;exact⟨h1,aL _,aL _,aL _⟩
 split at h
 ·cases h
 split at h
 ·cases h
 split at h
 ·cases h
 rename_i bu hn;have h2:=Jh hp hn;split at h
 ·cases h
 ·cases h;refine⟨h1,h2,QI hp mA,?_⟩;show((Iv ((kB x.params rf).getD [])).map bA).length<=3001;rw[ai];have:=Sj ((kB x.params rf).getD []);have:=QI hp rf;omega
theorem V9:Hd P2:=⟨aL _,aL _,aL _,aL _⟩
theorem V_(h:∀x∈l,x.Le 3000):Hd (ju l):=by
 unfold ju;rcases QG l P2 with e|⟨x,hx,e⟩
 ·rw[e];exact V9
 ·exact Sk (h x hx) e
theorem QJ{r:Bs}(h:mJ r=.ok l):Hd (ju l):=by
 refine V_ (fun x hx=>?_);have h1:=Cl h x hx;have h2:=Cm h;exact⟨aE h1.scheme h2,aE h1.token h2,fun p hp=>⟨aE (h1.zH p hp).1 h2,aE (h1.zH p hp).2 h2⟩⟩
theorem L7{g x:aQ bE}(h:x∈vU gs g):x∈gs\/x=g:=by
 unfold vU at h;have h:=eE h;rcases bL.1 h with h|h
 ·exact Or.inl (fk.1 h).1
 ·exact Or.inr (cH.1 h)
theorem L_{ws:List (bK bE)}{m x:bK bE}(h:x∈Aj ws m):x∈ws\/x=m:=by
 unfold Aj at h;have h:=eE h;rcases bL.1 h with h|h
 ·exact Or.inl ((rH _ _ _).subset h)
 ·exact Or.inr (cH.1 h)
theorem Bz{o:gG}{proxy:Bool}:∀ {ws:List (bK bE)} {g:bK bE},(mB o proxy ws).2=some g->g∈ws
 |[],_,h=>by cases h
 |x :: l,g,h=>by
  rw[mB]at h;cases hx:Bt o proxy x
  ·rw[hx]at h;simp only[cL,fa]at h;exact bN _ (Bz h)
  ·rw[hx]at h;simp only[eo]at h;cases h;exact cM
theorem L'{o:gG}{proxy:Bool}{path:aj}{P:aQ bE->Prop}(hP:∀g,P g->P g.used)(h:∀x∈gs,P x) :
  (∀x∈(vV gs o proxy path).1,P x)/\∀g,(vV gs o proxy path).2=.ok g->P g:=by
 unfold vV;split
 ·split
  ·rename_i g hg;have hl:∀x∈gs.take (uo gs o proxy path).toNat++gs.drop ((uo gs o proxy path).toNat+1),P x:=fun x hx=>by
    rcases bL.1 hx with hx|hx
    ·exact h x (ed hx)
    ·exact h x (eE hx)
   have YA:P g.used:=hP g (h g (bQ hg));simp only;split
   ·exact⟨hl,fun g h=>by cases h⟩
   ·refine⟨fun x hx=>?_,fun g h=>by cases h;exact YA⟩;rcases bL.1 hx with hx|hx
    ·exact hl x hx
    ·rw[cH]at hx;rw[hx];exact YA
  ·exact⟨h,fun g h=>by cases h⟩
 ·exact⟨h,fun g h=>by cases h⟩
structure si (p:dR):Prop where
 bG:∀g∈p.bG,V8 g
 waits:∀x∈p.waits,Hd x.a
theorem si.no:si yV:=⟨fun _ h=>(by cases h),fun _ h=>(by cases h)⟩
theorem si.sJ{p:dR}(h:si p)(now:Int)(o:iE)(hu:o.user.size<=5000)(hp:o.pass.size<=5000):si (sJ p now o).1:=by
 obtain⟨hg,hw⟩:=h;unfold Go.Proofs.YtnckmcnffadjoaaGreatDoor.sJ;by_cases h1:o.what=1
 ·rw[az h1];have hU:=(L' (gs:=p.bG) (o:=o.o) (proxy:=o.proxy) (path:=o.path) (P:=V8) (fun _ h=>h) hg).1;unfold iA;split
  ·rename_i gs e he;rw[he]at hU;exact⟨hU,hw⟩
  ·rename_i gs g he;rw[he]at hU;split
   ·exact⟨fun x hx=>hU x (fk.1 hx).1,hw⟩
   ·exact⟨hU,hw⟩
 rw[aq h1];by_cases h2:o.what=2
 ·rw[az h2];unfold fP;split
  ·exact⟨hg,hw⟩
  ·rename_i l hl;have hb:=QJ hl;split
   ·split
    ·rename_i g hs;refine⟨fun x hx=>?_,hw⟩;rcases L7 hx with hx|rfl
     ·exact hg x hx
     ·unfold Ez at hs;split at hs
      ·rename_i g' YA;split at hs
       ·cases hs;have:=hg g' (List.mem_of_find?_eq_some YA);exact⟨hb,this.2⟩
       ·cases hs
      ·cases hs
    ·refine⟨fun x hx=>hg x (fk.1 hx).1,fun x hx=>?_⟩;rcases L_ hx with hx|rfl
     ·exact hw x hx
     ·exact hb
   ·exact⟨hg,hw⟩
 rw[aq h2];by_cases h3:o.what=3
 ·rw[az h3];have hs:=rH o.o o.proxy p.waits;unfold gi;split
  ·rename_i ws e;rw[e]at hs;exact⟨hg,fun x hx=>hw x (hs.subset hx)⟩
  ·rename_i ws x e;have hx:=Bz (o:=o.o) (proxy:=o.proxy) (ws:=p.waits) (g:=x) (by rw[e]);rw[e]at hs;refine⟨fun y hy=>?_,fun x hx=>hw x (hs.subset hx)⟩;rcases L7 hy with hy|rfl
   ·exact hg y hy
   ·exact⟨hw x hx,hu,hp⟩
 rw[aq h3];by_cases h4:o.what=4
 ·rw[az h4];exact⟨hg,hw⟩
 rw[aq h4];by_cases h5:o.what=5
 ·rw[az h5];unfold gU;split
  ·exact⟨hg,hw⟩
  ·split
   ·exact⟨hg,hw⟩
   ·exact⟨hg,hw⟩
 rw[aq h5];by_cases h6:o.what=6
 ·rw[az h6];exact⟨hg,hw⟩
 rw[aq h6];by_cases h7:o.what=7
 ·rw[az h7];unfold jY;split
  ·exact⟨hg,hw⟩
  ·exact⟨hg,hw⟩
 rw[aq h7];unfold pG;split
 ·exact si.no
 ·have UT:si (uY p o.o):=⟨fun x hx=>hg x (fk.1 hx).1,fun x hx=>hw x (fk.1 hx).1⟩;split
  ·exact⟨UT.bG,UT.waits⟩
  ·exact UT
def ED(w:dD):Prop:=∀k,si (w.part k)
theorem ED.new:ED yW:=fun _=>si.no
theorem ED.iK{w:dD}(h:ED w)(o:iE)(hu:o.user.size<=5000)(hp:o.pass.size<=5000):ED (iK w o).1:=by
 cases hr:o.right
 ·rw[tA hr];exact h
 ·by_cases hw:o.what=10
  ·rw[sg hr hw];split
   ·exact h
   ·exact h
  ·rw[qE hr hw];intro k;by_cases hk:k=o.part.toNat
   ·subst hk;rw[kZ];exact(h _).sJ _ _ hu hp
   ·rw[ni _ _ hk];exact h k
theorem lJ(o:jO)(hs:List ig)(w:World)(h:gM w o hs) :
  aB 28 #[.agg o.cells.toArray] w fun e w'=>e=.returned (.bool (o.dW hs).right)/\Fr aS w w':=by
 have gO:=O (show(o.dW hs).right=(decide (1<=o.what)&&(decide (o.what<=10)&&(sj o.aN.part o.aN.method hs&&(oa o.aN.dt&&(oa o.aN.o&&(decide (o.aN.path.size<=200)&&(o.aN.path.data.toList.head?==some 47&&decide (o.text.size<=3000))))))))from rfl);generalize (o.dW hs).right=res at gO ⊢;obtain⟨ah,ch,g_⟩:=dU h.eB;rw[ai]at g_
 have C4:o.cells=[.int .i64 o.what,.int .i64 o.aN.part,.bool o.aN.dt.aG,.string o.aN.dt.host,.int .i64 o.aN.dt.port,.bool o.aN.o.aG,.string o.aN.o.host,.int .i64 o.aN.o.port,.string o.aN.path,.string o.aN.query,.string o.aN.method,.slice ah hs.length ch,.bool o.aN.f_,.string o.aN.body,.bool o.proxy,.string o.text,.string o.user,.string o.pass,.string o.bS,.int .i64 o.cert,.bool o.all,.int .i64 o.n]:=by unfold jO.cells gC.cells;rw[g_];rfl
 have uX:o.aN.cells=[.int .i64 o.aN.part,.bool o.aN.dt.aG,.string o.aN.dt.host,.int .i64 o.aN.dt.port,.bool o.aN.o.aG,.string o.aN.o.host,.int .i64 o.aN.o.port,.string o.aN.path,.string o.aN.query,.string o.aN.method,.slice ah hs.length ch,.bool o.aN.f_,.string o.aN.body]:=by unfold gC.cells;rw[g_]
 obtain⟨w2,eG⟩:∃w2,w2=(w.alloc (.cells #[.int .i64 o.what,.int .i64 o.aN.part,.bool o.aN.dt.aG,.string o.aN.dt.host,.int .i64 o.aN.dt.port,.bool o.aN.o.aG,.string o.aN.o.host,.int .i64 o.aN.o.port,.string o.aN.path,.string o.aN.query,.string o.aN.method,.slice ah hs.length ch,.bool o.aN.f_,.string o.aN.body,.bool o.proxy,.string o.text,.string o.user,.string o.pass,.string o.bS,.int .i64 o.cert,.bool o.all,.int .i64 o.n] 41)).alloc (.cells #[.int .i64 o.aN.part,.bool o.aN.dt.aG,.string o.aN.dt.host,.int .i64 o.aN.dt.port,.bool o.aN.o.aG,.string o.aN.o.host,.int .i64 o.aN.o.port,.string o.aN.path,.string o.aN.query,.string o.aN.method,.slice ah hs.length ch,.bool o.aN.f_,.string o.aN.body] 37):=⟨_,rfl⟩
 have dE:Fr aS w w2:=by rw[eG];exact((ae aS w).alloc _).alloc _
 have k1:w2.heap[w.heap.size]?=some (.cells #[.int .i64 o.what,.int .i64 o.aN.part,.bool o.aN.dt.aG,.string o.aN.dt.host,.int .i64 o.aN.dt.port,.bool o.aN.o.aG,.string o.aN.o.host,.int .i64 o.aN.o.port,.string o.aN.path,.string o.aN.query,.string o.aN.method,.slice ah hs.length ch,.bool o.aN.f_,.string o.aN.body,.bool o.proxy,.string o.text,.string o.user,.string o.pass,.string o.bS,.int .i64 o.cert,.bool o.all,.int .i64 o.n] 41 (0,0)):=by rw[eG];exact((ae aS _).alloc _).keep (aC _ _) id
 have k2:w2.heap[w.heap.size+1]?=some (.cells #[.int .i64 o.aN.part,.bool o.aN.dt.aG,.string o.aN.dt.host,.int .i64 o.aN.dt.port,.bool o.aN.o.aG,.string o.aN.o.host,.int .i64 o.aN.o.port,.string o.aN.path,.string o.aN.query,.string o.aN.method,.slice ah hs.length ch,.bool o.aN.f_,.string o.aN.body] 37 (0,0)):=by
  have h:=aC (w.alloc (.cells #[.int .i64 o.what,.int .i64 o.aN.part,.bool o.aN.dt.aG,.string o.aN.dt.host,.int .i64 o.aN.dt.port,.bool o.aN.o.aG,.string o.aN.o.host,.int .i64 o.aN.o.port,.string o.aN.path,.string o.aN.query,.string o.aN.method,.slice ah hs.length ch,.bool o.aN.f_,.string o.aN.body,.bool o.proxy,.string o.text,.string o.user,.string o.pass,.string o.bS,.int .i64 o.cert,.bool o.all,.int .i64 o.n] 41)) (.cells #[.int .i64 o.aN.part,.bool o.aN.dt.aG,.string o.aN.dt.host,.int .i64 o.aN.dt.port,.bool o.aN.o.aG,.string o.aN.o.host,.int .i64 o.aN.o.port,.string o.aN.path,.string o.aN.query,.string o.aN.method,.slice ah hs.length ch,.bool o.aN.f_,.string o.aN.body] 37)
  rw[bP]at h;rw[eG];exact h
 have HC:=O (show∀U,Fr aS w2 U->U.cell? ⟨w.heap.size,0,none⟩=some (.int .i64 o.what)/\U.cell? ⟨w.heap.size,15,none⟩=some (.string o.text)/\U.cell? ⟨w.heap.size+1,0,none⟩=some (.int .i64 o.aN.part)/\U.cell? ⟨w.heap.size+1,1,none⟩=some (.bool o.aN.dt.aG)/\U.cell? ⟨w.heap.size+1,2,none⟩=some (.string o.aN.dt.host)/\U.cell? ⟨w.heap.size+1,3,none⟩=some (.int .i64 o.aN.dt.port)/\U.cell? ⟨w.heap.size+1,4,none⟩=some (.bool o.aN.o.aG)/\U.cell? ⟨w.heap.size+1,5,none⟩=some (.string o.aN.o.host)/\U.cell? ⟨w.heap.size+1,6,none⟩=some (.int .i64 o.aN.o.port)/\U.cell? ⟨w.heap.size+1,7,none⟩=some (.string o.aN.path)/\U.cell? ⟨w.heap.size+1,8,none⟩=some (.string o.aN.query)/\U.cell? ⟨w.heap.size+1,9,none⟩=some (.string o.aN.method)/\U.cell? ⟨w.heap.size+1,10,none⟩=some (.slice ah hs.length ch)/\U.cell? ⟨w.heap.size+1,11,none⟩=some (.bool o.aN.f_)/\U.cell? ⟨w.heap.size+1,12,none⟩=some (.string o.aN.body)from fun U hU=>by
  have j1:=hU.keep k1 id;have j2:=hU.keep k2 id;simp[World.cell?,j1,j2])
 have C1:=O (show∀U,Fr aS w2 U->aB 45 #[.agg #[.int .i64 o.aN.part,.bool o.aN.dt.aG,.string o.aN.dt.host,.int .i64 o.aN.dt.port,.bool o.aN.o.aG,.string o.aN.o.host,.int .i64 o.aN.o.port,.string o.aN.path,.string o.aN.query,.string o.aN.method,.slice ah hs.length ch,.bool o.aN.f_,.string o.aN.body]] U fun e w'=>e=.returned (.bool (sj o.aN.part o.aN.method hs))/\Fr aS U w' from fun U hU=>by
  have:=OA o.aN hs U (bh h.eB (dE.trans hU)) h.aN;rw[uX]at this;exact this)
 have C2:=O (show∀U,aB 46 #[.agg #[.bool o.aN.dt.aG,.string o.aN.dt.host,.int .i64 o.aN.dt.port]] U fun e w'=>e=.returned (.bool (oa o.aN.dt))/\Fr aS U w' from fun U=>GP o.aN.dt U h.dt);have C3:=O (show∀U,aB 46 #[.agg #[.bool o.aN.o.aG,.string o.aN.o.host,.int .i64 o.aN.o.port]] U fun e w'=>e=.returned (.bool (oa o.aN.o))/\Fr aS U w' from fun U=>GP o.aN.o U h.ori);have hpz:=h.path;have Yj:=h.text
 have nP:=O eG;have fU:=O dE;rw[C4];clear h dE k1 k2 C4 uX g_;obtain⟨a0,jy,b0,b1,b2,b3,b4,b5,b6,b7,b8,b9,b10,b11,b12⟩:=HC.o w2 (ae _ _);rw[eG]at a0 jy b0 b1 b2 b3 b4 b5 b6 b7 b8 b9 b10 b11 b12;clear eG;by_cases h1:o.what>=1
 rotate_left
 ·have HR:=O (show res=false by rw[gO.o,bj (show¬1<=o.what from ab)];rfl);clear gO;go_enter func28,ntmps28;go_wp2;go_ret;exact⟨by rw[HR.o];rfl,by rw[<-nP.o];exact fU.o⟩
 by_cases h2:o.what<=10
 rotate_left
 ·have HR:=O (show res=false by rw[gO.o,bj h2,kI,Bool.and_false]);clear gO;go_enter func28,ntmps28;go_wp2;go_ret;exact⟨by rw[HR.o];rfl,by rw[<-nP.o];exact fU.o⟩
 have Oq:=O (show res=(sj o.aN.part o.aN.method hs&&(oa o.aN.dt&&(oa o.aN.o&&(decide (o.aN.path.size<=200)&&(o.aN.path.data.toList.head?==some 47&&decide (o.text.size<=3000))))))by rw[gO.o,bJ h2,bJ (show 1<=o.what from ab)];rfl);clear gO;go_enter func28,ntmps28;go_wp2_with fail
 rw[<-nP.o];refine(C1.o w2 (ae _ _)).mono ?_;rintro e u1⟨rfl,uF⟩;cases e1:sj o.aN.part o.aN.method hs
 ·have HR:=O (show res=false by rw[Oq.o,e1];rfl);clear Oq e1;go_wp2;go_ret;exact⟨by rw[HR.o];rfl,fU.o.trans uF⟩
 have px:=O (show res=(oa o.aN.dt&&(oa o.aN.o&&(decide (o.aN.path.size<=200)&&(o.aN.path.data.toList.head?==some 47&&decide (o.text.size<=3000)))))by rw[Oq.o,e1];rfl);have Ji:=O uF;clear Oq e1 uF a0 jy b0 b1 b2 b3 b4 b5 b6 b7 b8 b9 b10 b11 b12;obtain⟨a0,jy,b0,b1,b2,b3,b4,b5,b6,b7,b8,b9,b10,b11,b12⟩:=HC.o u1 Ji.o;go_wp2_with fail
 refine(C2.o u1).mono ?_;rintro e u2⟨rfl,nC⟩;cases e1:oa o.aN.dt
 ·have HR:=O (show res=false by rw[px.o,e1];rfl);clear px e1;go_wp2;go_ret;exact⟨by rw[HR.o];rfl,fU.o.trans (Ji.o.trans nC)⟩
 have Qb:=O (show res=(oa o.aN.o&&(decide (o.aN.path.size<=200)&&(o.aN.path.data.toList.head?==some 47&&decide (o.text.size<=3000))))by rw[px.o,e1];rfl);have t_:=O (Ji.o.trans nC);clear px e1 nC a0 jy b0 b1 b2 b3 b4 b5 b6 b7 b8 b9 b10 b11 b12;obtain⟨a0,jy,b0,b1,b2,b3,b4,b5,b6,b7,b8,b9,b10,b11,b12⟩:=HC.o u2 t_.o;go_wp2_with fail
 refine(C3.o u2).mono ?_;rintro e u3⟨rfl,Ab⟩;cases e1:oa o.aN.o
 ·have HR:=O (show res=false by rw[Qb.o,e1];rfl);clear Qb e1;go_wp2;go_ret;exact⟨by rw[HR.o];rfl,fU.o.trans (t_.o.trans Ab)⟩
 have Wb:=O (show res=(decide (o.aN.path.size<=200)&&(o.aN.path.data.toList.head?==some 47&&decide (o.text.size<=3000)))by rw[Qb.o,e1];rfl);have YB:=O (t_.o.trans Ab);clear Qb e1 Ab a0 jy b0 b1 b2 b3 b4 b5 b6 b7 b8 b9 b10 b11 b12;obtain⟨a0,jy,b0,b1,b2,b3,b4,b5,b6,b7,b8,b9,b10,b11,b12⟩:=HC.o u3 YB.o;have HFZ:=O (fU.o.trans YB.o);by_cases h3:(o.aN.path.size:Int)<=200
 rotate_left
 ·have HR:=O (show res=false by rw[Wb.o,bj (show¬o.aN.path.size<=200 from ab)];rfl);clear Wb;go_wp2;go_ret;exact⟨by rw[HR.o];rfl,HFZ.o⟩
 have T8:=O (show res=(o.aN.path.data.toList.head?==some 47&&decide (o.text.size<=3000))by rw[Wb.o,bJ (show o.aN.path.size<=200 from ab)];rfl);clear Wb;by_cases h4:(o.aN.path.size:Int)>0
 rotate_left
 ·have HR:=O (show res=false by
   have e:o.aN.path.data.toList=[]:=ct (by have:o.aN.path.data.toList.length=o.aN.path.size:=by simp
                                           omega)
   rw[T8.o,e];rfl)
  clear T8;go_wp2;go_ret;exact⟨by rw[HR.o];rfl,HFZ.o⟩
 have hp0:0<o.aN.path.size:=ab;have ajp:=byte_at o.aN.path 0 hp0;have hhd:o.aN.path.data.toList.head?=some o.aN.path[0]:=by rw[List.head?_eq_getElem?];exact ajp
 have YC:=O (show res=(decide (o.aN.path[0]=47)&&decide (o.text.size<=3000))by
  rw[T8.o,hhd];by_cases q:o.aN.path[0]=47
  ·rw[q];rfl
  ·rw[bj q,aO.2 (fun e=>q (km e))])
 clear T8 hhd ajp;by_cases q:o.aN.path[0]=47
 rotate_left
 ·have HR:=O (show res=false by rw[YC.o,bj q];rfl);have q2:((o.aN.path[0].toNat:Int)==47)=false:=by
   rw[aO];intro e;exact q (jd.1 (by show o.aN.path[0].toNat=47;omega))
  clear YC;go_wp2;go_ret;exact⟨by rw[HR.o];rfl,HFZ.o⟩
 have HR:=O (show res=decide (o.text.size<=3000)by rw[YC.o,bJ q];rfl);have q2:((o.aN.path[0].toNat:Int)==47)=true:=by rw[q];rfl
 clear YC q;go_wp2;go_ret;exact⟨by show Ending.returned (.bool (decide ((o.text.size:Int)<=3000)))=_;exact fF (by rw[HR.o];exact decide_eq_decide.2 ⟨fun h=>ab,fun h=>ab⟩),HFZ.o⟩
def vn(c:Nat)(P Q:dR):Prop:=(c.testBit 0=true->P.bG=Q.bG/\P.waits=Q.waits)/\(c.testBit 1=true->P.book=Q.book)/\(c.testBit 2=true->P.dJ=Q.dJ)
def BI(c:Nat)(P Q:dR):Prop:=(c.testBit 0=false->P.bG=Q.bG/\P.waits=Q.waits)/\(c.testBit 1=false->P.book=Q.book)/\(c.testBit 2=false->P.dJ=Q.dJ)
def i_(c:Nat)(P F:dR):dR:=⟨if c.testBit 0 then F.bG else P.bG,if c.testBit 0 then F.waits else P.waits,if c.testBit 1 then F.book else P.book,if c.testBit 2 then F.dJ else P.dJ⟩
def kh(w f:dD)(part:Int)(c:Nat):dD :=
 if 0<=part/\part<4 then{part:=fun i=>if i=part.toNat then i_ c (w.part i) (f.part i)else w.part i,now:=if c.testBit 3 then f.now else w.now}else w
theorem vn.refl(c:Nat)(P:dR):vn c P P:=⟨fun _=>⟨rfl,rfl⟩,fun _=>rfl,fun _=>rfl⟩
theorem BI.refl(c:Nat)(P:dR):BI c P P:=⟨fun _=>⟨rfl,rfl⟩,fun _=>rfl,fun _=>rfl⟩
theorem y_{P F:dR}(h:BI c F P):i_ c P F=F:=by
 obtain⟨g,w,b,s⟩:=F;obtain⟨h0,h1,h2⟩:=h;unfold i_;simp only[dR.mk.injEq];refine⟨?_,?_,?_,?_⟩
 ·split
  ·rfl
  ·rename_i h;exact(h0 (by simpa using h)).1.symm
 ·split
  ·rfl
  ·rename_i h;exact(h0 (by simpa using h)).2.symm
 ·split
  ·rfl
  ·rename_i h;exact(h1 (by simpa using h)).symm
 ·split
  ·rfl
  ·rename_i h;exact(h2 (by simpa using h)).symm
theorem Mp{P Q F G:dR}(h:vn c F G)(hk:BI c P Q):i_ c P F=i_ c Q G:=by
 obtain⟨h0,h1,h2⟩:=h;obtain⟨k0,k1,k2⟩:=hk;unfold i_;simp only[dR.mk.injEq];refine⟨?_,?_,?_,?_⟩
 ·split
  ·rename_i h;exact(h0 h).1
  ·rename_i h;exact(k0 (by simpa using h)).1
 ·split
  ·rename_i h;exact(h0 h).2
  ·rename_i h;exact(k0 (by simpa using h)).2
 ·split
  ·rename_i h;exact h1 h
  ·rename_i h;exact k1 (by simpa using h)
 ·split
  ·rename_i h;exact h2 h
  ·rename_i h;exact k2 (by simpa using h)
abbrev mi := @BI.refl
open Go.ChangeShapes Go.WideShapes Go.ChangeAt Go.RowKit Go.Deep
variable {H : Type} {enc : TypeId × Value → H} {W : World}
structure vJ (w:World) (o:jO) (hs:List ig):Prop where
 aN:XS w o.aN hs
 text:o.text.size<=140737488351232
 user:o.user.size<=140737488351232
 pass:o.pass.size<=140737488351232
 bS:o.bS.size<=140737488351232
 what:(Lit.int .i64 o.what).wf=true
 cert:(Lit.int .i64 o.cert).wf=true
 n:(Lit.int .i64 o.n).wf=true
abbrev JL(w:World)(v:Value)(os:List (jO×List ig)):Prop:=dZ 22 w v (os.map fun o=>o.1.cells)/\os.length<=140737488355328/\∀o∈os,vJ w o.1 o.2
theorem M0:prog.cellsOf 41=22:=af
theorem AQ:prog.cellsOf 39=2:=af
theorem alc{α:Type}{l:List α}(h:l.length=22):∃a0 a1 a2 a3 a4 a5 a6 a7 a8 a9 jP jQ a12 jN jR jy j_ ka ke ko a20 a21,l=[a0,a1,a2,a3,a4,a5,a6,a7,a8,a9,jP,jQ,a12,jN,jR,jy,j_,ka,ke,ko,a20,a21]:=by
 match l,h with
 |[a0,a1,a2,a3,a4,a5,a6,a7,a8,a9,jP,jQ,a12,jN,jR,jy,j_,ka,ke,ko,a20,a21],_=>exact⟨a0,a1,a2,a3,a4,a5,a6,a7,a8,a9,jP,jQ,a12,jN,jR,jy,j_,ka,ke,ko,a20,a21,rfl⟩
theorem PB{x:DataW H×List MemPlace}(h:DataW.trod enc prog W 0 (fun _=>true) true fuel 39 cs=some x) :
  ∃u p:aj,cs=[.string u,.string p]/\(pI prog 39 x.1->u.size<=reachBytes/\p.size<=reachBytes):=by
 obtain⟨hl,n,hf⟩:=om underlying39 h;rw[AQ]at hl;obtain⟨c0,c1,rfl⟩:=ak' hl;obtain⟨y0,h0,l0⟩:=hf 0 9 0 _ rfl jc;obtain⟨y1,h1,l1⟩:=hf 1 9 1 _ rfl jc;simp only[List.drop,List.take]at h0 h1;obtain⟨u,eu,wu⟩:=fA underlying9 h0;obtain⟨q,eq,wq⟩:=fA underlying9 h1;simp only[fK,iW]at eu eq;subst eu eq;exact⟨u,q,rfl,fun hL=>⟨wu (l0 hL),wq (l1 hL)⟩⟩
theorem abu{x:DataW H×List MemPlace}(h:DataW.trod enc prog W 0 (fun _=>true) true fuel 41 cs=some x) :
  ∃b:jO×List ig,cs=b.1.cells/\cs.length=22/\(∀u∈cs,u.oneCell'=true)/\(pI prog 41 x.1->vJ W b.1 b.2):=by
 obtain⟨hl,n,hf⟩:=om underlying41 h;rw[M0]at hl;obtain⟨c0,c1,c2,c3,c4,c5,c6,c7,c8,c9,G',T5,c12,c13,c14,c15,c16,c17,c18,c19,c20,c21,rfl⟩:=alc hl;obtain⟨y0,h0,l0⟩:=hf 0 3 0 _ rfl qe;obtain⟨y1,h1,l1⟩:=hf 1 37 1 _ rfl Ie;obtain⟨y2,h2,l2⟩:=hf 2 4 14 _ rfl vr;obtain⟨y3,h3,l3⟩:=hf 3 9 15 _ rfl jc;obtain⟨y4,h4,l4⟩:=hf 4 39 16 _ rfl AQ;obtain⟨y5,h5,l5⟩:=hf 5 9 18 _ rfl jc
 obtain⟨y6,h6,l6⟩:=hf 6 3 19 _ rfl qe;obtain⟨y7,h7,l7⟩:=hf 7 4 20 _ rfl vr;obtain⟨y8,h8,l8⟩:=hf 8 3 21 _ rfl qe;simp only[List.drop,List.take]at h0 h1 h2 h3 h4 h5 h6 h7 h8;obtain⟨b0,e0,w0⟩:=kQ underlying3 h0;obtain⟨r,⟨e1,_⟩,_,o1,s1⟩:=XT h1;obtain⟨b2,e2⟩:=nV underlying4 h2;obtain⟨b3,e3,w3⟩:=fA underlying9 h3;obtain⟨u4,p4,e4,s4⟩:=PB h4;obtain⟨b5,e5,w5⟩:=fA underlying9 h5
 obtain⟨b6,e6,w6⟩:=kQ underlying3 h6;obtain⟨b7,e7⟩:=nV underlying4 h7;obtain⟨b8,e8,w8⟩:=kQ underlying3 h8;rw[e1]at o1;unfold gC.cells at e1;simp only[fK,iW]at e0 e1 e2 e3 e4 e5 e6 e7 e8;obtain⟨rfl,rfl,rfl,rfl,rfl,rfl,rfl,rfl,rfl,rfl,rfl,rfl,rfl⟩:=e1;obtain⟨rfl,rfl⟩:=e4;subst e0 e2 e3 e5 e6 e7 e8;have ef:∀u∈(⟨b0,r.1,b2,b3,u4,p4,b5,b6,b7,b8⟩:jO).cells,u.oneCell'=true:=by
  intro u hu;unfold jO.cells at hu;rcases bC.1 hu with rfl|hu
  ·rfl
  rcases bL.1 hu with hu|hu
  ·exact o1 u hu
  ·simp only[bC,cA,dY]at hu;rcases hu with rfl|rfl|rfl|rfl|rfl|rfl|rfl|rfl<;>rfl
 refine⟨(⟨b0,r.1,b2,b3,u4,p4,b5,b6,b7,b8⟩,r.2),rfl,rfl,ef,fun hL=>?_⟩;have q4:=s4 (l4 hL);exact⟨s1 (l1 hL),w3 (l3 hL),q4.1,q4.2,w5 (l5 hL),w0,w6,w8⟩
instance:Inhabited (jO×List ig):=⟨(⟨0,⟨0,⟨false,.empty,0⟩,⟨false,.empty,0⟩,.empty,.empty,.empty,.nilIface,false,.empty⟩,false,.empty,.empty,.empty,.empty,0,false,0⟩,[])⟩
theorem Fh(base:Nat)(w:World)(B:Nat)(pv:Nat->cY)(x:dD)(h:cE base w B pv x) :
  aB 24 #[.pointer (some ⟨B,0,none⟩)] w fun e w'=>e=.returned (.int .i64 x.now)/\w'=w:=by
 have c:w.cell? ⟨B,12,none⟩=some (.int .i64 x.now):=by
  simp only[World.cell?,h.eN];rfl
 clear h;go_enter func24,ntmps24;go_wp2;go_ret;exact⟨rfl,rfl⟩
def mO(p:dR):Prop:=∀x∈p.waits,x.path.size<=5000
theorem mO.no:mO yV:=fun _ h=>by cases h
theorem mO.same{p q:dR}(h:mO p)(e:q.waits=p.waits):mO q:=by unfold mO;rw[e];exact h
theorem mO.sub{p q:dR}(h:mO p)(e:∀x∈q.waits,x∈p.waits):mO q:=fun x hx=>h x (e x hx)
theorem mO.sJ{p:dR}(h:mO p)(now:Int)(o:iE)(hp:o.path.size<=5000):mO (sJ p now o).1:=by
 unfold Go.Proofs.YtnckmcnffadjoaaGreatDoor.sJ;by_cases h1:o.what=1
 ·rw[az h1];unfold iA;split
  ·exact h.same rfl
  ·split
   ·exact h.same rfl
   ·exact h.same rfl
 rw[aq h1];by_cases h2:o.what=2
 ·rw[az h2];unfold fP;split
  ·exact h
  ·split
   ·split
    ·exact h.same rfl
    ·intro x hx;rcases L_ hx with hx|rfl
     ·exact h x hx
     ·exact hp
   ·exact h
 rw[aq h2];by_cases h3:o.what=3
 ·rw[az h3];have hs:=rH o.o o.proxy p.waits;unfold gi;split
  ·rename_i ws e;rw[e]at hs;exact h.sub (fun x hx=>hs.subset hx)
  ·rename_i ws x e;rw[e]at hs;exact h.sub (fun x hx=>hs.subset hx)
 rw[aq h3];by_cases h4:o.what=4
 ·rw[az h4];exact h
 rw[aq h4];by_cases h5:o.what=5
 ·rw[az h5];unfold gU;split
  ·exact h
  ·split
   ·exact h.same rfl
   ·exact h.same rfl
 rw[aq h5];by_cases h6:o.what=6
 ·rw[az h6];exact h
 rw[aq h6];by_cases h7:o.what=7
 ·rw[az h7];unfold jY;split
  ·exact h
  ·exact h.same rfl
 rw[aq h7];unfold pG;split
 ·exact mO.no
 ·split
  ·exact h.sub (fun x hx=>(fk.1 hx).1)
  ·exact h.sub (fun x hx=>(fk.1 hx).1)
def EE(w:dD):Prop:=∀i,mO (w.part i)
theorem EE.new:EE yW:=fun _=>mO.no
theorem EE.iK{w:dD}(h:EE w)(o:iE)(hp:o.path.size<=5000):EE (iK w o).1:=by
 unfold Go.Proofs.YtnckmcnffadjoaaGreatDoor.iK;split
 ·split
  ·split
   ·exact h
   ·exact h
  ·intro i;show mO ((w.set _ _).part i);unfold dD.set;simp only;split
   ·exact(h _).sJ _ _ hp
   ·exact h i
 ·exact h
def bU:bT:= #[.int .i64 0,.string ⟨#[]⟩,.int .i64 0]
theorem gM.h_{o:jO}(h:gM w o hs):∃ah ch,o.aN.eB=.slice ah hs.length ch:=by
 obtain⟨a,c,e⟩:=dU h.eB;rw[ai]at e;exact⟨a,c,e⟩
section
variable {base : Nat} {w w' : World} {B o : Nat} {cs : List Value} {v : cY} {p : dR}
theorem eV.fq(h:eV base w v p){n:Nat}{old:bT}(hn:w.heap[n]?=some (.cells old t (0,0)))(ht:t≠89/\t≠114/\t≠133/\t≠92/\t≠155/\t≠97):¬v.kn n:=fun hf=>by
 obtain⟨c,t',e,h'⟩:=h.ix hf;rw[hn]at e;cases e;obtain⟨h1,h2,h3,h4,h5,h6⟩:=ht;rcases h' with h|h|h|h|h|h
 ·exact h1 h
 ·exact h2 h
 ·exact h3 h
 ·exact h4 h
 ·exact h5 h
 ·exact h6 h
theorem dn.row(h:dn base w B cs o v p w'){n:Nat}{old:bT}{t:TypeId}(oM:base<=w.heap.size)(hB:B<w.heap.size)(hn:w.heap.size<=n)(hr:w'.heap[n]?=some (.cells old t (0,0)))
  (ht:t≠89/\t≠114/\t≠133/\t≠92/\t≠155/\t≠97)(hs:t≠9)(new:bT):dn base w B cs o v p (w'.setRow n new):=by
 obtain⟨v',h1,h2,h3,h4⟩:=h;have kR:Fr (one n) w' (w'.setRow n new):=(ae (one n) w').setRow (fun _=>rfl) _;have nd:sG base w' (one n):=by
  rintro k rfl _;exact⟨ab,fun c f e=>by rw[hr]at e;cases e;exact hs rfl⟩
 refine⟨v',h1.fr kR nd (fun i hi e=>?_),h2.step kR (fun k hk e=>?_),h3,kR.keep h4 (fun e=>?_)⟩
 ·have e':i=n:=e;subst e';exact h1.fq hr ht hi
 ·have e':k=n:=e;omega
 ·have e':B=n:=e;omega
end
theorem eQ:(30:TypeId)≠89/\(30:TypeId)≠114/\(30:TypeId)≠133/\(30:TypeId)≠92/\(30:TypeId)≠155/\(30:TypeId)≠97:=ag
theorem bf(x:bT)(h:x.size=3):(prog.info? 30).map (·.size)=some x.size:=by rw[h];kernel_rfl
theorem eA{b:Nat}{o:jO}(h:w.heap[b]?=some (.cells o.cells.toArray 41 (0,0)))(hh:o.aN.eB=.slice ah hs.length ch):w.cell? ⟨b,0,none⟩=some (.int .i64 o.what)/\w.cell? ⟨b,1,none⟩=some (.int .i64 o.aN.part)/\w.cell? ⟨b,2,none⟩=some (.bool o.aN.dt.aG)/\w.cell? ⟨b,3,none⟩=some (.string o.aN.dt.host)/\w.cell? ⟨b,4,none⟩=some (.int .i64 o.aN.dt.port)/\w.cell? ⟨b,5,none⟩=some (.bool o.aN.o.aG)/\w.cell? ⟨b,6,none⟩=some (.string o.aN.o.host)/\w.cell? ⟨b,7,none⟩=some (.int .i64 o.aN.o.port)/\w.cell? ⟨b,8,none⟩=some (.string o.aN.path)/\w.cell? ⟨b,9,none⟩=some (.string o.aN.query)/\w.cell? ⟨b,10,none⟩=some (.string o.aN.method)/\w.cell? ⟨b,11,none⟩=some (.slice ah hs.length ch)/\w.cell? ⟨b,12,none⟩=some (.bool o.aN.f_)/\w.cell? ⟨b,13,none⟩=some (.string o.aN.body)/\w.cell? ⟨b,14,none⟩=some (.bool o.proxy)/\w.cell? ⟨b,15,none⟩=some (.string o.text)/\w.cell? ⟨b,16,none⟩=some (.string o.user)/\w.cell? ⟨b,17,none⟩=some (.string o.pass)/\w.cell? ⟨b,18,none⟩=some (.string o.bS)/\w.cell? ⟨b,19,none⟩=some (.int .i64 o.cert)/\w.cell? ⟨b,20,none⟩=some (.bool o.all)/\w.cell? ⟨b,21,none⟩=some (.int .i64 o.n):=by
 have e:o.cells=[.int .i64 o.what,.int .i64 o.aN.part,.bool o.aN.dt.aG,.string o.aN.dt.host,.int .i64 o.aN.dt.port,.bool o.aN.o.aG,.string o.aN.o.host,.int .i64 o.aN.o.port,.string o.aN.path,.string o.aN.query,.string o.aN.method,.slice ah hs.length ch,.bool o.aN.f_,.string o.aN.body,.bool o.proxy,.string o.text,.string o.user,.string o.pass,.string o.bS,.int .i64 o.cert,.bool o.all,.int .i64 o.n]:=by unfold jO.cells gC.cells;rw[hh];rfl
 rw[e]at h;simp only[World.cell?,h];exact⟨rfl,rfl,rfl,rfl,rfl,rfl,rfl,rfl,rfl,rfl,rfl,rfl,rfl,rfl,rfl,rfl,rfl,rfl,rfl,rfl,rfl,rfl⟩
theorem eF{o:jO}(hh:o.aN.eB=.slice ah hs.length ch):o.cells=[.int .i64 o.what,.int .i64 o.aN.part,.bool o.aN.dt.aG,.string o.aN.dt.host,.int .i64 o.aN.dt.port,.bool o.aN.o.aG,.string o.aN.o.host,.int .i64 o.aN.o.port,.string o.aN.path,.string o.aN.query,.string o.aN.method,.slice ah hs.length ch,.bool o.aN.f_,.string o.aN.body,.bool o.proxy,.string o.text,.string o.user,.string o.pass,.string o.bS,.int .i64 o.cert,.bool o.all,.int .i64 o.n]:=by unfold jO.cells gC.cells;rw[hh];rfl
theorem Av{o:jO}(hh:o.aN.eB=.slice ah hs.length ch):o.aN.cells=[.int .i64 o.aN.part,.bool o.aN.dt.aG,.string o.aN.dt.host,.int .i64 o.aN.dt.port,.bool o.aN.o.aG,.string o.aN.o.host,.int .i64 o.aN.o.port,.string o.aN.path,.string o.aN.query,.string o.aN.method,.slice ah hs.length ch,.bool o.aN.f_,.string o.aN.body]:=by unfold gC.cells;rw[hh]
def eK(base:Nat)(w:World)(B:Nat)(cs:aZ)(off:Nat)(v:cY)(r:dR×kt)(e:Ending)(w':World):Prop :=
 e=.returned r.2.val/\dn base w B cs off v r.1 w'
abbrev dC := @dn.row
theorem EN(hr:o.right=true):1<=o.what/\o.what<=10:=by
 unfold iE.right at hr;simp only[cy,du]at hr;exact⟨hr.1,hr.2.1⟩
theorem dR.apP{P Q:dR}(h1:P.bG=Q.bG)(h2:P.waits=Q.waits)(h3:P.book=Q.book)(h4:P.dJ=Q.dJ):P=Q:=by
 cases P;cases Q;simp only at h1 h2 h3 h4;rw[h1,h2,h3,h4]
theorem AB{P Q:dR}(h:P.bG=Q.bG):(iA P o).2=(iA Q o).2/\(iA P o).1.bG=(iA Q o).1.bG/\(iA P o).1.waits=P.waits/\(iA P o).1.book=P.book/\(iA P o).1.dJ=P.dJ:=by
 unfold iA;rw[h];split
 ·exact⟨rfl,rfl,rfl,rfl,rfl⟩
 ·split<;>exact⟨rfl,rfl,rfl,rfl,rfl⟩
theorem F7{P Q:dR}(h:P.bG=Q.bG)(h':P.waits=Q.waits):(fP P o).2=(fP Q o).2/\(fP P o).1.bG=(fP Q o).1.bG/\(fP P o).1.waits=(fP Q o).1.waits/\(fP P o).1.book=P.book/\(fP P o).1.dJ=P.dJ:=by
 unfold fP;rw[h,h'];split
 ·exact⟨rfl,(by first|rfl|exact h),(by first|rfl|exact h'),rfl,rfl⟩
 ·split
  ·split
   ·exact⟨rfl,rfl,(by first|rfl|exact h'),rfl,rfl⟩
   ·exact⟨rfl,rfl,rfl,rfl,rfl⟩
  ·exact⟨rfl,(by first|rfl|exact h),(by first|rfl|exact h'),rfl,rfl⟩
theorem EO{P Q:dR}(h:P.bG=Q.bG)(h':P.waits=Q.waits):(gi P o).2=(gi Q o).2/\(gi P o).1.bG=(gi Q o).1.bG/\(gi P o).1.waits=(gi Q o).1.waits/\(gi P o).1.book=P.book/\(gi P o).1.dJ=P.dJ:=by
 unfold gi;rw[h,h'];split
 ·exact⟨rfl,(by first|rfl|exact h),rfl,rfl,rfl⟩
 ·exact⟨rfl,rfl,rfl,rfl,rfl⟩
theorem F8{P Q:dR}{now:Int}(h:P.book=Q.book):(gU P now o).2=(gU Q now o).2/\(gU P now o).1.book=(gU Q now o).1.book/\(gU P now o).1.bG=P.bG/\(gU P now o).1.waits=P.waits/\(gU P now o).1.dJ=P.dJ:=by
 unfold gU;rw[h];split
 ·exact⟨rfl,(by first|rfl|exact h),rfl,rfl,rfl⟩
 ·split<;>exact⟨rfl,rfl,rfl,rfl,rfl⟩
theorem Jr{P Q:dR}(h:P.dJ=Q.dJ):(jY P o).2=(jY Q o).2/\(jY P o).1.dJ=(jY Q o).1.dJ/\(jY P o).1.bG=P.bG/\(jY P o).1.waits=P.waits/\(jY P o).1.book=P.book:=by
 unfold jY;rw[h];split
 ·exact⟨rfl,(by first|rfl|exact h),rfl,rfl,rfl⟩
 ·exact⟨rfl,rfl,rfl,rfl,rfl⟩
theorem afo{p:dR}(h:o.what=1):sJ p n o=iA p o:=by
 unfold sJ;rw[az h]
theorem afp{p:dR}(h:o.what=2):sJ p n o=fP p o:=by
 unfold sJ;rw[aq ab,az h]
theorem afq{p:dR}(h:o.what=3):sJ p n o=gi p o:=by
 unfold sJ;rw[aq ab,aq ab,az h]
theorem afr{p:dR}(h:o.what=4):sJ p n o=(p,rep (if mM p.book o.aN n then 5 else 4)):=by
 unfold sJ;rw[aq ab,aq ab,aq ab,az h]
theorem afs{p:dR}(h:o.what=5):sJ p n o=gU p n o:=by
 unfold sJ;rw[aq ab,aq ab,aq ab,aq ab,az h]
theorem aft{p:dR}(h:o.what=6):sJ p n o=(p,Hc p o):=by
 unfold sJ;rw[aq ab,aq ab,aq ab,aq ab,aq ab,az h]
theorem afu{p:dR}(h:o.what=7):sJ p n o=jY p o:=by
 unfold sJ;rw[aq ab,aq ab,aq ab,aq ab,aq ab,aq ab,az h]
theorem aaW{p:dR}(h:o.what=8\/o.what=9):sJ p n o=pG p o:=by
 unfold sJ;rw[aq ab,aq ab,aq ab,aq ab,aq ab,aq ab,aq ab]
theorem WQ(hr:o.right=true)(h:o.what=1):cO o=(1,true):=by
 unfold cO;rw[az hr,az ab]
theorem WR(hr:o.right=true)(h:o.what=2):cO o=(1,true):=by
 unfold cO;rw[az hr,az ab]
theorem WS(hr:o.right=true)(h:o.what=3):cO o=(1,true):=by
 unfold cO;rw[az hr,az ab]
theorem WT(hr:o.right=true)(h:o.what=4):cO o=(10,false):=by
 unfold cO;rw[az hr,aq ab,az h]
theorem WU(hr:o.right=true)(h:o.what=5):cO o=(10,true):=by
 unfold cO;rw[az hr,aq ab,aq ab,az h]
theorem WV(hr:o.right=true)(h:o.what=6):cO o=(4,false):=by
 unfold cO;rw[az hr,aq ab,aq ab,aq ab,az h]
theorem WW(hr:o.right=true)(h:o.what=7):cO o=(4,true):=by
 unfold cO;rw[az hr,aq ab,aq ab,aq ab,aq ab,az h]
theorem WX(hr:o.right=true)(h:o.what=8):cO o=(1,true):=by
 unfold cO;rw[az hr,az ab]
theorem WY(hr:o.right=true)(h:o.what=9):cO o=(7,true):=by
 unfold cO;rw[az hr,aq ab,aq ab,aq ab,aq ab,aq ab,aq ab]
theorem BJ(hr:o.right=true)(h:o.what=10):cO o=(8,true):=by
 unfold cO;rw[az hr,aq ab,aq ab,aq ab,aq ab,aq ab,az h]
theorem BK{P Q:dR}{m:Int}(hr:o.right=true)(Nq:o.what≠10)(ha:vn (cO o).1 P Q)(hn:(cO o).1.testBit 3=true->n=m) :
  (sJ P n o).2=(sJ Q m o).2/\vn (cO o).1 (sJ P n o).1 (sJ Q m o).1/\BI (cO o).1 (sJ P n o).1 P/\((cO o).2=false->(sJ P n o).1=P):=by
 have hw:=EN hr;have akb:o.what=1\/o.what=2\/o.what=3\/o.what=4\/o.what=5\/o.what=6\/o.what=7\/o.what=8\/o.what=9:=ab;rcases akb with h|h|h|h|h|h|h|h|h
 ·rw[WQ hr h]at ha hn ⊢;rw[afo h,afo h];obtain⟨hg,hw'⟩:=ha.1 rfl;obtain⟨e1,e2,e3,e4,e5⟩:=AB (o:=o) hg;obtain⟨_,_,f3,_,_⟩:=AB (P:=Q) (Q:=Q) (o:=o) rfl;exact⟨e1,⟨fun _=>⟨e2,by rw[e3,f3,hw']⟩,fun h=>absurd h ag,fun h=>absurd h ag⟩,⟨fun h=>absurd h ag,fun _=>e4,fun _=>e5⟩,fun h=>(by cases h)⟩
 ·rw[WR hr h]at ha hn ⊢;rw[afp h,afp h];obtain⟨hg,hw'⟩:=ha.1 rfl;obtain⟨e1,e2,e3,e4,e5⟩:=F7 (o:=o) hg hw';exact⟨e1,⟨fun _=>⟨e2,e3⟩,fun h=>absurd h ag,fun h=>absurd h ag⟩,⟨fun h=>absurd h ag,fun _=>e4,fun _=>e5⟩,fun h=>(by cases h)⟩
 ·rw[WS hr h]at ha hn ⊢;rw[afq h,afq h];obtain⟨hg,hw'⟩:=ha.1 rfl;obtain⟨e1,e2,e3,e4,e5⟩:=EO (o:=o) hg hw';exact⟨e1,⟨fun _=>⟨e2,e3⟩,fun h=>absurd h ag,fun h=>absurd h ag⟩,⟨fun h=>absurd h ag,fun _=>e4,fun _=>e5⟩,fun h=>(by cases h)⟩
 ·rw[WT hr h]at ha hn ⊢;rw[afr h,afr h];have hb:=ha.2.1 rfl;have DI:=hn rfl;exact⟨by rw[hb,DI],ha,mi _ _,fun _=>rfl⟩
 ·rw[WU hr h]at ha hn ⊢;have hb:=ha.2.1 rfl;have DI:=hn rfl;subst DI;rw[afs h,afs h];obtain⟨e1,e2,e3,e4,e5⟩:=F8 (o:=o) (now:=n) hb;exact⟨e1,⟨fun h=>absurd h ag,fun _=>e2,fun h=>absurd h ag⟩,⟨fun _=>⟨e3,e4⟩,fun h=>absurd h ag,fun _=>e5⟩,fun h=>(by cases h)⟩
 ·rw[WV hr h]at ha hn ⊢;rw[aft h,aft h];have hc:=ha.2.2 rfl;exact⟨by unfold Hc;rw[hc],ha,mi _ _,fun _=>rfl⟩
 ·rw[WW hr h]at ha hn ⊢;rw[afu h,afu h];have hc:=ha.2.2 rfl;obtain⟨e1,e2,e3,e4,e5⟩:=Jr (o:=o) hc;exact⟨e1,⟨fun h=>absurd h ag,fun h=>absurd h ag,fun _=>e2⟩,⟨fun _=>⟨e3,e4⟩,fun _=>e5,fun h=>absurd h ag⟩,fun h=>(by cases h)⟩
 ·rw[WX hr h]at ha hn ⊢;rw[aaW (Or.inl h),aaW (Or.inl h)];obtain⟨hg,hw'⟩:=ha.1 rfl;unfold pG;rw[aq (by simp[h]),aq (by simp[h]),aq (by simp[h]),aq (by simp[h])];unfold uY;exact⟨rfl,⟨fun _=>⟨by simp only[hg],by simp only[hw']⟩,fun h=>absurd h ag,fun h=>absurd h ag⟩,⟨fun h=>absurd h ag,fun _=>rfl,fun _=>rfl⟩,fun h=>(by cases h)⟩
 ·rw[WY hr h]at ha hn ⊢;rw[aaW (Or.inr h),aaW (Or.inr h)];obtain⟨hg,hw'⟩:=ha.1 rfl;have e:P=Q:=dR.apP hg hw' (ha.2.1 rfl) (ha.2.2 rfl);subst e;exact⟨rfl,vn.refl _ _,⟨fun h=>absurd h ag,fun h=>absurd h ag,fun h=>absurd h ag⟩,fun h=>(by cases h)⟩
theorem uA{part:Int}(h0:0<=part)(h1:part<4)(w f:dD)(c:Nat):kh w f part c={part:=fun i=>if i=part.toNat then i_ c (w.part i) (f.part i)else w.part i,now:=if c.testBit 3 then f.now else w.now}:=by
 unfold kh;rw[az ⟨h0,h1⟩]
theorem Mq(w:dD)(part:Int):kh w w part 0=w:=by
 unfold kh;split
 ·refine dD.eq (fun i=>?_) rfl;show(if i=_ then i_ 0 (w.part i) (w.part i)else w.part i)=w.part i;split
  ·exact y_ (mi _ _)
  ·rfl
 ·rfl
theorem uB(hr:o.right=false):cO o=(0,false):=by unfold cO;rw[hr];rfl
def Js(o:iE)(v w:dD):Prop:=vn (cO o).1 (v.part o.part.toNat) (w.part o.part.toNat)/\((cO o).1.testBit 3=true->v.now=w.now)
theorem Cr{v w:dD}(h:Js o v w):(iK v o).2=(iK w o).2/\(o.right=true->Js o (iK v o).1 (iK w o).1):=by
 cases hr:o.right
 ·rw[tA hr,tA hr];exact⟨rfl,fun h=>(by cases h)⟩
 ·by_cases Nq:o.what=10
  ·have hn:=h.2 (by rw[BJ hr Nq];rfl);rw[sg hr Nq,sg hr Nq,hn];split
   ·exact⟨rfl,fun _=>h⟩
   ·exact⟨rfl,fun _=>⟨h.1,fun _=>rfl⟩⟩
  ·obtain⟨e1,e2,_,_⟩:=BK (n:=v.now) (m:=w.now) hr Nq h.1 h.2;rw[qE hr Nq,qE hr Nq];refine⟨e1,fun _=>⟨?_,fun hb=>h.2 hb⟩⟩;rw[kZ,kZ];exact e2
theorem OX{w:dD}(h:(cO o).2=false):(iK w o).1=w:=by
 cases hr:o.right
 ·rw[tA hr]
 ·by_cases Nq:o.what=10
  ·rw[BJ hr Nq]at h;cases h
  ·obtain⟨_,_,_,e4⟩:=BK (P:=w.part o.part.toNat) (Q:=w.part o.part.toNat) (n:=w.now) (m:=w.now) hr Nq (vn.refl _ _) (fun _=>rfl);rw[qE hr Nq,e4 h,pg]
theorem Hr(w:dD)(o:iE):kh w (iK w o).1 o.part (cO o).1=(iK w o).1:=by
 cases hr:o.right
 ·rw[tA hr,uB hr];exact Mq w o.part
 ·obtain⟨p0,p1⟩:=iX hr;rw[uA p0 p1];by_cases Nq:o.what=10
  ·rw[BJ hr Nq];refine dD.eq (fun i=>?_) ?_
   ·have hp:(iK w o).1.part=w.part:=by rw[sg hr Nq];split<;>rfl
    show(if i=o.part.toNat then i_ 8 (w.part i) ((iK w o).1.part i)else w.part i)=(iK w o).1.part i;rw[hp];split
    ·exact y_ (mi _ _)
    ·rfl
   ·rfl
  ·obtain⟨_,_,e3,_⟩:=BK (P:=w.part o.part.toNat) (Q:=w.part o.part.toNat) (n:=w.now) (m:=w.now) hr Nq (vn.refl _ _) (fun _=>rfl);rw[qE hr Nq];refine dD.eq (fun i=>?_) ?_
   ·show(if i=o.part.toNat then i_ (cO o).1 (w.part i) ((w.set o.part.toNat (sJ (w.part o.part.toNat) w.now o).1).part i)else w.part i)=(w.set o.part.toNat (sJ (w.part o.part.toNat) w.now o).1).part i;by_cases hi:i=o.part.toNat
    ·subst hi;rw[az rfl,kZ];exact y_ e3
    ·rw[aq hi,ni _ _ hi]
   ·show(if(cO o).1.testBit 3=true then w.now else w.now)=w.now;split<;>rfl
theorem xl(base:Nat)(w:World)(B:Nat)(pv:Nat->cY)(x:dD)(h:cE base w B pv x)(i:Nat)(hi:i<4)(hl:(x.part i).bG.length<68719476736) :
  aB 29 #[.pointer (some ⟨B,0,none⟩),.int .i64 i] w (Ee base w (x.part i).bG):=by
 have c:=(h.partAt hi).cell0;have HR:=O (Ef base w (pv i).b (pv i).gv (pv i).wv (x.part i).bG (x.part i).waits (h.part i hi).oK hl);have Nw:(i:Int)<4:=ab;have qN:¬(i:Int)<0:=ab;have N2:¬(4:Int)<=(i:Int):=ab;have Lu:(0:Int)<=(i:Int):=ab;clear h hl;go_enter func29,ntmps29;go_wp2_with fail
 refine HR.o.mono ?_;rintro e u⟨v',rfl,hg⟩;go_wp2;go_ret;exact⟨v',rfl,hg⟩
theorem Fk(base:Nat)(w:World)(B:Nat)(pv:Nat->cY)(x:dD)(h:cE base w B pv x)(i:Nat)(hi:i<4)(hl:(x.part i).waits.length<68719476736) :
  aB 72 #[.pointer (some ⟨B,0,none⟩),.int .i64 i] w (G2 base w (x.part i).waits):=by
 have c:=(h.partAt hi).cell0;have HR:=O (G3 base w (pv i).b (pv i).gv (pv i).wv (x.part i).bG (x.part i).waits (h.part i hi).oK hl);have Nw:(i:Int)<4:=ab;have qN:¬(i:Int)<0:=ab;have N2:¬(4:Int)<=(i:Int):=ab;have Lu:(0:Int)<=(i:Int):=ab;clear h hl;go_enter func72,ntmps72;go_wp2_with fail
 refine HR.o.mono ?_;rintro e u⟨v',rfl,hg⟩;go_wp2;go_ret;exact⟨v',rfl,hg⟩
theorem Cu(base:Nat)(w:World)(B:Nat)(pv:Nat->cY)(x:dD)(h:cE base w B pv x)(i:Nat)(hi:i<4)(hl:(x.part i).book.length<1000000) :
  aB 78 #[.pointer (some ⟨B,0,none⟩),.int .i64 i] w (fun e w'=>∃v',e=.returned v'/\OwnRows w.heap.size 155 12 w' v' ((x.part i).book.map ez.cells)/\Fr aS w w'):=by
 have c:=(h.partAt hi).ib;have HR:=O (Am base w (pv i).k (pv i).kv (x.part i).book (h.part i hi).book hl);have Nw:(i:Int)<4:=ab;have qN:¬(i:Int)<0:=ab;have N2:¬(4:Int)<=(i:Int):=ab;have Lu:(0:Int)<=(i:Int):=ab;clear h hl;go_enter func78,ntmps78;go_wp2_with fail
 refine HR.o.mono ?_;rintro e u⟨v',rfl,hg⟩;go_wp2;go_ret;exact⟨v',rfl,hg⟩
theorem Fl(base:Nat)(w:World)(B:Nat)(pv:Nat->cY)(x:dD)(h:cE base w B pv x)(i:Nat)(hi:i<4)(hl:(x.part i).dJ.length<=1000000) :
  aB 73 #[.pointer (some ⟨B,0,none⟩),.int .i64 i] w (fun e w'=>∃v',e=.returned v'/\OwnRows w.heap.size 97 4 w' v' ((x.part i).dJ.map lB)/\Fr aS w w'):=by
 have c:=(h.partAt hi).mg;have HR:=O (QR (pv i).cv ((x.part i).dJ.map lB) w (h.part i hi).dJ.at (by rw[ai];omega));have Nw:(i:Int)<4:=ab;have qN:¬(i:Int)<0:=ab;have N2:¬(4:Int)<=(i:Int):=ab;have Lu:(0:Int)<=(i:Int):=ab;obtain⟨a,k,hcv⟩:=(h.part i hi).dJ.form;rw[ai]at hcv;rw[hcv]at c HR;clear h hl;go_enter func73,ntmps73;go_wp2_with fail
 refine HR.o.mono ?_;rintro e u⟨v',rfl,hg⟩;go_wp2;go_ret;exact⟨v',rfl,hg⟩
structure lr (x:dD):Prop where
 ok:yi x
 sm:ED x
 path:EE x
theorem lr.new:lr yW:=⟨yi.new,ED.new,EE.new⟩
theorem lr.iK{x:dD}(h:lr x)(o:iE)(hu:o.user.size<=5000)(hp:o.pass.size<=5000)(ha:o.path.size<=5000):lr (iK x o).1 :=
 ⟨h.ok.iK o,h.sm.iK o hu hp,h.path.iK o ha⟩
def FX(n:Int):iE:=⟨n,0,uw,uw,⟨#[47]⟩,⟨#[]⟩,⟨#[71,69,84]⟩,[],false,⟨#[]⟩,false,⟨#[66,97,115,105,99,32,114,101,97,108,109,61,114]⟩,⟨#[117]⟩,⟨#[112]⟩,⟨#[]⟩,0,false,0⟩
def QK:dD:=(iK yW (FX 2)).1
def QL:dD:=(iK QK (FX 3)).1
def acB:dD:=(iK QL (FX 1)).1
theorem aoW:(iK yW (FX 2)).2=⟨3,⟨#[]⟩,0⟩:=af
theorem aoX:(iK QK (FX 3)).2=⟨1,⟨#[]⟩,0⟩:=af
theorem aoY:(iK QL (FX 1)).2=⟨1,⟨#[66,97,115,105,99,32,100,84,112,119]⟩,0⟩:=af
theorem aoZ:(acB.part 0).bG.length=1:=af
theorem acC:lr QK:=lr.new.iK _ ag ag ag
theorem ajm:lr QL:=acC.iK _ ag ag ag
theorem u_{n:Nat}{x:Obj}(h:w.heap[n]?=some x)(hn:n≠B)(o:Nat)(u:Value):(w.setCell ⟨B,o,none⟩ u).heap[n]?=some x :=
 ((ae (one B) w).setCell (p:=⟨B,o,none⟩) (fun _=>rfl) u).keep h hn
theorem Wc{o:Nat}(h:o+2<cs.length):(pB cs o v)[o]?=some (.pointer (some ⟨v.b,0,none⟩))/\(pB cs o v)[o+1]?=some (.pointer (some ⟨v.k,0,none⟩))/\(pB cs o v)[o+2]?=some v.cv:=by
 unfold pB;refine⟨?_,?_,?_⟩
 ·rw[List.getElem?_set_ne ab,List.getElem?_set_ne ab,List.getElem?_set_self ab]
 ·rw[List.getElem?_set_ne ab,List.getElem?_set_self bH]
 ·rw[List.getElem?_set_self bH]
theorem Sm(cs:aZ)(o:Nat)(v v':cY):pB (pB cs o v) o v'=pB cs o v':=by
 unfold pB;apply js;intro i;simp only[List.getElem?_set,en];by_cases h2:o+2=i
 ·simp[h2]
 by_cases h1:o+1=i
 ·simp[h1,h2]
 by_cases h0:o=i
 ·simp[h0]
 simp[h0,h1,h2]
theorem gY.after{w w1:World}{B off:Nat}{cs:aZ}{v v1:cY}(ha:gY w B cs off v)(hb:w1.heap[B]?=some (.cells (pB cs off v1).toArray 86 (0,0))):gY w1 B (pB cs off v1) off v1:=by
 have hl:off+2<cs.length:=(List.getElem?_eq_some_iff.1 ha.c2).1;obtain⟨h0,h1,h2⟩:=Wc (v:=v1) hl;exact⟨hb,h0,h1,h2⟩
theorem dn.seq{base:Nat}{w w1 w2:World}{B off:Nat}{cs:aZ}{v v1:cY}{p2:dR}(f1:Fr (Au B v) w w1)(Co:∀k,v1.kn k->v.kn k\/w.heap.size<=k)(h2:dn base w1 B (pB cs off v1) off v1 p2 w2):dn base w B cs off v p2 w2:=by
 obtain⟨v2,i2,f2,ajq,ao1⟩:=h2;refine⟨v2,i2,f1.step f2 (fun k hk hp=>?_),fun k hk=>?_,?_⟩
 ·rcases hp with rfl|hp
  ·exact Or.inl rfl
  ·rcases Co k hp with h|h
   ·exact Or.inr h
   ·omega
 ·rcases ajq k hk with h|h
  ·exact Co k h
  ·exact Or.inr (aE f1.size h)
 ·rw[ao1,Sm]
theorem dn.fresh{off:Nat}{p:dR}(h:eV base w v p)(ha:gY w B cs off v)(oM:base<=B) :
  dn base w B cs off v yV (((((w.alloc (.cells #[.slice none 0 0,.slice none 0 0] 89)).alloc (.cells #[.slice none 0 0] 92)).setCell ⟨B,off,none⟩ (.pointer (some ⟨w.heap.size,0,none⟩))).setCell ⟨B,off+1,none⟩ (.pointer (some ⟨w.heap.size+1,0,none⟩))).setCell ⟨B,off+2,none⟩ (.slice none 0 0)):=by
 have hB:¬v.kn B:=h.fq ha.eN ag;have vd:B<w.heap.size:=bq ha.eN;obtain⟨W,hW⟩:∃W,W=(w.alloc (.cells #[.slice none 0 0,.slice none 0 0] 89)).alloc (.cells #[.slice none 0 0] 92):=⟨_,rfl⟩;have hf:Fr aS w W:=by rw[hW];exact((ae aS w).alloc _).alloc _
 have yd:W.heap[w.heap.size]?=some (.cells #[.slice none 0 0,.slice none 0 0] 89 (0,0)):=by rw[hW];exact((ae aS _).alloc _).keep (aC _ _) id
 have N7:W.heap[w.heap.size+1]?=some (.cells #[.slice none 0 0] 92 (0,0)):=by
  have h:=aC (w.alloc (.cells #[.slice none 0 0,.slice none 0 0] 89)) (.cells #[.slice none 0 0] 92);rw[bP]at h;rw[hW];exact h
 rw[<-hW];have qm:=hf.keep ha.eN id;obtain⟨V,hV⟩:∃V,V=((W.setCell ⟨B,off,none⟩ (.pointer (some ⟨w.heap.size,0,none⟩))).setCell ⟨B,off+1,none⟩ (.pointer (some ⟨w.heap.size+1,0,none⟩))).setCell ⟨B,off+2,none⟩ (.slice none 0 0):=⟨_,rfl⟩;have YD:Fr (one B) W V:=by
  rw[hV];exact(((ae (one B) W).setCell (p:=⟨B,off,none⟩) (fun _=>rfl) _).setCell (p:=⟨B,off+1,none⟩) (fun _=>rfl) _).setCell (p:=⟨B,off+2,none⟩) (fun _=>rfl) _
 have hbV:V.heap[B]?=some (.cells (pB cs off ⟨w.heap.size,.slice none 0 0,.slice none 0 0,w.heap.size+1,.slice none 0 0,.slice none 0 0⟩).toArray 86 (0,0)):=by
  have e1:=cq qm off (.pointer (some ⟨w.heap.size,0,none⟩));have e2:=cq e1 (off+1) (.pointer (some ⟨w.heap.size+1,0,none⟩));have e3:=cq e2 (off+2) (.slice none 0 0);rw[hV,e3];unfold pB;simp
 rw[<-hV]
 refine⟨⟨w.heap.size,.slice none 0 0,.slice none 0 0,w.heap.size+1,.slice none 0 0,.slice none 0 0⟩,⟨⟨by show base<=w.heap.size;omega,YD.keep yd (fun e=>by have e':w.heap.size=B:=e;omega),⟨[],dB _ _ _ _,.nil⟩,⟨[],dB _ _ _ _,.nil⟩⟩,⟨by show base<=w.heap.size+1;omega,YD.keep N7 (fun e=>by have e':w.heap.size+1=B:=e;omega),dB _ _ _ _⟩,dB _ _ _ _⟩,gl (S:=Au B v) (hf.mono (fun _ _ h=>absurd h id)) YD (fun _ _ e=>Or.inl e),?_,hbV⟩
 rintro k(hk|hk|hk)
 ·rcases hk with hk|hk|hk
  ·have e:k=w.heap.size:=hk;exact Or.inr ab
  ·simp[own,Value.ownBlock]at hk
  ·simp[own,Value.ownBlock]at hk
 ·rcases hk with hk|hk
  ·have e:k=w.heap.size+1:=hk;exact Or.inr ab
  ·simp[own,Value.ownBlock]at hk
 ·simp[own,Value.ownBlock]at hk
def eX(t:TypeId):Prop:=t≠89/\t≠114/\t≠133/\t≠92/\t≠155/\t≠97
theorem eM{w':World}{p:dR}{n:Nat}{c:bT}(h:eV base w v p)(hf:Fr (Au B v) w w')(hn:w.heap[n]?=some (.cells c t (0,0)))(ht:eX t)(hB:n≠B):w'.heap[n]?=some (.cells c t (0,0)) :=
 hf.keep hn (fun e=>by
  rcases e with e|e
  ·exact hB e
  ·exact h.fq hn ht e)
theorem jw:eX 41:=by unfold eX;decide
theorem p9:eX 32:=by unfold eX;decide
theorem dM:eX 30:=by unfold eX;decide
theorem Hh:eX 37:=by unfold eX;decide
theorem BA:eX 112:=by unfold eX;decide
abbrev iy := @gY.after
abbrev gP := @dn.seq
structure vo where
 does:Nat
 op:iE
 fails:Nat
 iG:Int
 seen:dD
 num:Nat->Nat->Int
 ec:kt
def apQ:iE:=⟨0,0,⟨false,.empty,0⟩,⟨false,.empty,0⟩,.empty,.empty,.empty,[],false,.empty,false,.empty,.empty,.empty,.empty,0,false,0⟩
def fo:vo:=⟨0,apQ,0,0,yW,fun _ _=>0,rep 0⟩
structure ua where
 tab:Nat
 op:iE
 ec:kt
 iG:Int
 fin:Int
structure fB where
 w:dD
 num:Nat->Nat->Int
 tab:Nat->vo
 steps:Int
 cU:List ua
def sq:fB:=⟨yW,fun _ _=>0,fun _=>fo,0,[]⟩
def fB.put(t:fB)(n:Nat)(x:vo):fB:={t with tab:=fun i=>if i=n then x else t.tab i}
def mD(o:iE):List (Nat×Nat):=[0,1,2,3].filterMap fun i=>if(cO o).1.testBit i then some (if i=3 then 0 else o.part.toNat,i)else none
def vF(o:iE)(f:Nat->Nat->Int):List Int:=(mD o).map fun c=>f c.1 c.2
def AD(o:iE)(f:Nat->Nat->Int):Nat->Nat->Int:=fun p i=>if(p,i)∈mD o then f p i+1 else f p i
def ja(t:fB)(n:Nat)(r:kt):fB :=
 {t with cU:=t.cU++[⟨n,(t.tab n).op,r,(t.tab n).iG,t.steps⟩],tab:=fun i=>if i=n then fo else t.tab i}
def iB(t:fB)(n:Nat):fB×(kt×Bool) :=
 if vF (t.tab n).op t.num=vF (t.tab n).op (t.tab n).num then
  (ja (if(cO (t.tab n).op).2 then{t with w:=kh t.w (t.tab n).seen (t.tab n).op.part (cO (t.tab n).op).1,num:=AD (t.tab n).op t.num}else t) n (t.tab n).ec,(t.tab n).ec,true)
 else if(t.tab n).fails+1<=3 then(t.put n {t.tab n with fails:=(t.tab n).fails+1,does:=1},rep 0,false)
 else(ja (t.put n {t.tab n with fails:=(t.tab n).fails+1}) n (rep 6),rep 6,true)
def stepT(t:fB)(n:Nat):fB×(kt×Bool) :=
 if(t.tab n).does=1 then({(t.put n {t.tab n with seen:=t.w,num:=t.num,does:=2})with steps:=t.steps+1},rep 0,false)
 else if(t.tab n).does=2 then({(t.put n {t.tab n with ec:=(iK (t.tab n).seen (t.tab n).op).2,seen:=(iK (t.tab n).seen (t.tab n).op).1,does:=3})with steps:=t.steps+1},rep 0,false)
 else iB {t with steps:=t.steps+1} n
def EP(n:Int):Bool:=decide (0<=n)&&decide (n<6)
def lC(t:fB)(n:Int):fB×(kt×Bool×Nat) :=
 if EP n then
  if(t.tab n.toNat).does=0 then(t,rep 0,false,8)else((stepT t n.toNat).1,(stepT t n.toNat).2.1,(stepT t n.toNat).2.2,0)
 else(t,rep 0,false,2)
def za(t:fB)(n:Int)(o:iE):fB×Nat :=
 if EP n then
  if(t.tab n.toNat).does=0 then({(t.put n.toNat {fo with does:=1,op:=o,iG:=t.steps+1})with steps:=t.steps+1},0)else(t,6)
 else(t,2)
def nU(t:fB)(n:Int):fB×Nat :=
 if EP n then
  if(t.tab n.toNat).does=0 then(t,8)else({(t.put n.toNat fo)with steps:=t.steps+1},0)
 else(t,2)
structure J_ where
 kind:Int
 tab:Int
 op:iE
def oz(t:fB)(m:J_):fB :=
 if m.kind=1 then(za t m.tab m.op).1 else if m.kind=2 then(nU t m.tab).1 else if m.kind=0 then(lC t m.tab).1 else t
def tT(l:List J_):fB:=l.foldl oz sq
def vp(l:List ua):dD:=l.foldl (fun w e=>if e.ec.what=6 then w else(iK w e.op).1) yW
theorem xH(l:List ua)(e:ua):vp (l++[e])=if e.ec.what=6 then vp l else(iK (vp l) e.op).1:=by unfold vp;simp
def sr(p i:Nat)(v w:dD):Prop :=
 (i=0->(v.part p).bG=(w.part p).bG/\(v.part p).waits=(w.part p).waits)/\(i=1->(v.part p).book=(w.part p).book)/\(i=2->(v.part p).dJ=(w.part p).dJ)/\(i=3->p=0->v.now=w.now)
theorem sr.refl(p i:Nat)(w:dD):sr p i w w:=⟨fun _=>⟨rfl,rfl⟩,fun _=>rfl,fun _=>rfl,fun _ _=>rfl⟩
theorem sr.trans{u v w:dD}(h:sr p i u v)(g:sr p i v w):sr p i u w :=
 ⟨fun e=>⟨(h.1 e).1.trans (g.1 e).1,(h.1 e).2.trans (g.1 e).2⟩,fun e=>(h.2.1 e).trans (g.2.1 e),fun e=>(h.2.2.1 e).trans (g.2.2.1 e),fun e e'=>(h.2.2.2 e e').trans (g.2.2.2 e e')⟩
theorem ER:(p,i)∈mD o↔i<4/\(cO o).1.testBit i=true/\p=(if i=3 then 0 else o.part.toNat):=by
 unfold mD;simp only[List.mem_filterMap,bC,cA,dY];constructor
 ·rintro⟨j,hj,h⟩;split at h
  ·rename_i hb;simp only[eb,jb]at h;obtain⟨h1,rfl⟩:=h;exact⟨ab,hb,h1.symm⟩
  ·cases h
 ·rintro⟨h1,h2,h3⟩;exact⟨i,ab,by rw[az h2,h3]⟩
def vW(t:fB)(s:dD)(f:Nat->Nat->Int):Prop:=∀p i,f p i<=t.num p i/\(f p i=t.num p i->i<4->sr p i s t.w)
theorem vW.agree{t:fB}{f:Nat->Nat->Int}(h:vW t s f)(hv:vF o t.num=vF o f):Js o s t.w:=by
 have key:∀c∈mD o,f c.1 c.2=t.num c.1 c.2:=fun c hc=>(List.map_inj_left.1 hv c hc).symm;have at':∀i,i<4->(cO o).1.testBit i=true->sr (if i=3 then 0 else o.part.toNat) i s t.w:=fun i hi hb =>
  (h _ i).2 (key (_,i) (ER.2 ⟨hi,hb,rfl⟩)) hi
 refine⟨⟨fun hb=>?_,fun hb=>?_,fun hb=>?_⟩,fun hb=>?_⟩
 ·exact(at' 0 ag hb).1 rfl
 ·exact(at' 1 ag hb).2.1 rfl
 ·exact(at' 2 ag hb).2.2.1 rfl
 ·exact(at' 3 ag hb).2.2.2 rfl rfl
theorem SR{w:dD}(h:Js o s w):(iK s o).2=(iK w o).2/\((cO o).2=true->kh w (iK s o).1 o.part (cO o).1=(iK w o).1):=by
 refine⟨(Cr h).1,fun hw=>?_⟩;cases hr:o.right
 ·rw[uB hr]at hw;cases hw
 ·obtain⟨p0,p1⟩:=iX hr;have g:=(Cr h).2 hr;rw[<-Hr w o,uA p0 p1,uA p0 p1];refine dD.eq (fun i=>?_) ?_
  ·show(if i=o.part.toNat then _ else _)=(if i=o.part.toNat then _ else _);split
   ·rename_i e;subst e;exact Mp g.1 (mi _ _)
   ·rfl
  ·show(if _ then _ else _)=(if _ then _ else _);split
   ·rename_i hb;exact g.2 hb
   ·rfl
theorem OY(w:dD)(o:iE)(hi:i<4)(h:(p,i)∉mD o):sr p i w (iK w o).1:=by
 rw[<-Hr w o];cases hr:o.right
 ·rw[uB hr];unfold kh;split
  ·have e:∀j,i_ 0 (w.part j) ((iK w o).1.part j)=w.part j:=fun j=>rfl;refine⟨fun _=>?_,fun _=>?_,fun _=>?_,fun _ _=>rfl⟩
   ·show _=(if p=o.part.toNat then i_ 0 _ _ else _).bG/\_=(if p=o.part.toNat then i_ 0 _ _ else _).waits;split
    ·exact⟨rfl,rfl⟩
    ·exact⟨rfl,rfl⟩
   ·show _=(if p=o.part.toNat then i_ 0 _ _ else _).book;split<;>rfl
   ·show _=(if p=o.part.toNat then i_ 0 _ _ else _).dJ;split<;>rfl
  ·exact sr.refl _ _ _
 ·obtain⟨p0,p1⟩:=iX hr;rw[uA p0 p1];have hb:∀j,j<4->(cO o).1.testBit j=true->i=j->p≠(if j=3 then 0 else o.part.toNat):=fun j hj hb e hp=>h (ER.2 ⟨hi,by rw[e];exact hb,by rw[e];exact hp⟩);refine⟨fun e=>?_,fun e=>?_,fun e=>?_,fun e ep=>?_⟩
  ·show _=(if p=o.part.toNat then i_ _ _ _ else _).bG/\_=(if p=o.part.toNat then i_ _ _ _ else _).waits;split
   ·rename_i hp;have:¬(cO o).1.testBit 0=true:=fun b=>hb 0 ag b e hp;unfold i_;exact⟨(aq this).symm,(aq this).symm⟩
   ·exact⟨rfl,rfl⟩
  ·show _=(if p=o.part.toNat then i_ _ _ _ else _).book;split
   ·rename_i hp;have:¬(cO o).1.testBit 1=true:=fun b=>hb 1 ag b e hp;unfold i_;exact(aq this).symm
   ·rfl
  ·show _=(if p=o.part.toNat then i_ _ _ _ else _).dJ;split
   ·rename_i hp;have:¬(cO o).1.testBit 2=true:=fun b=>hb 2 ag b e hp;unfold i_;exact(aq this).symm
   ·rfl
  ·have:¬(cO o).1.testBit 3=true:=fun b=>hb 3 ag b e ep;show w.now=(if _ then _ else _);exact(aq this).symm
theorem V5.acT{n:Nat}{er:Value}(h:V5 n er w):∃t x,er=.iface t x:=by
 rcases h with rfl|⟨g,p,rfl,_⟩
 ·exact⟨_,_,rfl⟩
 ·exact⟨_,_,rfl⟩
theorem My(base:Nat)(w:World)(B off:Nat)(cs:aZ)(v:cY)(p:dR)(o:jO)(hs:List ig)(now:Int)(h:eV base w v p)(ha:gY w B cs off v)(oM:base<=B)(hf:gM w o hs)(hk:ny p)(ht:wU w)(n0:0<=now)(n1:now<=1099511627776) :
  aB 34 #[.pointer (some ⟨B,off,none⟩),.agg o.cells.toArray,.int .i64 now] w (eK base w B cs off v (gU p now (o.dW hs))):=by
 have vd:B<w.heap.size:=bq ha.eN;have Ho:¬v.kn B:=h.fq ha.eN ag;obtain⟨ah,ch,g_⟩:=hf.h_;have SK:=hk.sZ.2.2.1;have S':=hf.text;obtain⟨w2,eG⟩:∃w2,w2=(w.alloc (.cells o.cells.toArray 41)).alloc (.cells bU 30):=⟨_,rfl⟩;have dE:Fr aS w w2:=by rw[eG];exact((ae aS w).alloc _).alloc _
 have k1:w2.heap[w.heap.size]?=some (.cells o.cells.toArray 41 (0,0)):=by rw[eG];exact((ae aS _).alloc _).keep (aC _ _) id
 have k2:w2.heap[w.heap.size+1]?=some (.cells bU 30 (0,0)):=by
  have h:=aC (w.alloc (.cells o.cells.toArray 41)) (.cells bU 30);rw[bP]at h;rw[eG];exact h
 have WC:=O (show∀U,Fr aS w2 U->U.heap[w.heap.size]?=some (.cells o.cells.toArray 41 (0,0))from fun U hU=>hU.keep k1 id);have Da:=O Ho;have HH:=O h;have HA:=O ha;have HF:=O hf;have l_:=O g_;have HT:=O ht;have fU:=O dE;have ra:=O k2;have py:=O (show base<=w.heap.size from ab);have pn:=O vd;have FL:=O (Pc o.text w2 S');have Sv:=O eG
 obtain⟨a0,a1,a2,a3,a4,a5,a6,a7,a8,a9,jP,jQ,a12,jN,jR,jy,j_,ka,ke,ko,a20,a21⟩:=eA k1 g_;rw[eG]at a0 a1 a2 a3 a4 a5 a6 a7 a8 a9 jP jQ a12 jN jR jy j_ ka ke ko a20 a21;rw[eF g_]at eG a0 a1 a2 a3 a4 a5 a6 a7 a8 a9 jP jQ a12 jN jR jy j_ ka ke ko a20 a21 ⊢;unfold bU at eG a0 a1 a2 a3 a4 a5 a6 a7 a8 a9 jP jQ a12 jN jR jy j_ ka ke ko a20 a21;have nP:=O eG;clear eG g_ dE k1 k2 h ha hf Ho hk ht S'
 go_enter func34,ntmps34;go_wp2_with fail
 rw[<-nP.o];refine FL.o.mono ?_;rintro e u1 GQ;clear a0 a1 a2 a3 a4 a5 a6 a7 a8 a9 jP jQ a12 jN jR jy j_ ka ke ko a20 a21;obtain⟨uF,GQ⟩:=GQ;have Ji:=O uF;cases Aa:mW o.text.data.toList with
 |error n =>
  rw[Aa]at GQ;obtain⟨er,rfl,hen⟩:=GQ;obtain⟨et,ev,rfl⟩:=hen.acT;have HR:=O (show gU p now (o.dW hs)=(p,rep 7)by unfold gU;rw[show(o.dW hs).text=o.text from rfl,Aa]);have BF:=O (uF.keep ra.o id);clear Aa hen uF
  go_wp2_with (first|((with_reducible refine cZ 30 ?_);refine aF rfl 30 (.tmp 6) (.tmp 18) rfl (w.heap.size+1) #[.int .i64 7,.string ⟨#[]⟩,.int .i64 0] rfl rfl _ bU BF.o (bf _ rfl) rfl cC ?_)|fail)
  refine aW (bw bD _ _ (w.heap.size+1) 30 #[.int .i64 7,.string ⟨#[]⟩,.int .i64 0] (0,0) _ rfl (a_ u1 (w.heap.size+1) _ _ _ _ BF.o) underlying30 rfl (bf _ rfl)) rfl ?_;unfold eK;rw[HR.o];exact⟨rfl,dC (mC HH.o HA.o (fU.o.trans Ji.o)) py.o pn.o (bX _) BF.o eQ ag _⟩
 |ok l =>
  rw[Aa]at GQ;obtain⟨v1,rfl,Bi⟩:=GQ;have rZ:=Bi.form;rw[ai]at rZ;obtain⟨al,cl,rfl⟩:=rZ;have pz:=Jw Aa;have hh1:=bh HF.o.eB (fU.o.trans uF);have GR:=O (SW o.aN hs _ l now u1 hh1 Bi.at pz HF.o.aN (HT.o.fr (fU.o.trans uF)) HF.o.Wa.1 HF.o.Wa.2 HF.o.dt n0 n1);rw[Av l_.o]at GR;obtain⟨a0,a1,a2,a3,a4,a5,a6,a7,a8,a9,jP,jQ,a12,jN,jR,jy,j_,ka,ke,ko,a20,a21⟩:=eA (WC.o u1 uF) l_.o;have HFL:=O Aa
  clear Aa uF Bi pz hh1;go_wp2_with fail
  refine GR.o.mono ?_;rintro e u2⟨nC,Dx⟩;clear a0 a1 a2 a3 a4 a5 a6 a7 a8 a9 jP jQ a12 jN jR jy j_ ka ke ko a20 a21 GR;have t_:=O (Ji.o.trans nC);have rU:=O (fU.o.trans t_.o);cases hg:uO (o.aN.dW hs) (xM o.aN.dt).data.toList l now with
  |error n =>
   rw[hg]at Dx;obtain rfl:=Dx;have HR:=O (show gU p now (o.dW hs)=({p with book:=p.book.filter (fun q=>!q.vB (o.aN.dW hs))},rep 2)by
    unfold gU;rw[show(o.dW hs).text=o.text from rfl,HFL.o];simp only;rw[show uO (o.dW hs).aN (Gm (o.dW hs).dt.dW) l now=.error n from hg];rfl)
   have Hw:=O (show∀U,Fr (iH v.k v.kv) u2 U->(U.cell? ⟨B,off+1,none⟩=some (.pointer (some ⟨v.k,0,none⟩))/\U.cell? ⟨w.heap.size,1,none⟩=some (.int .i64 o.aN.part)/\U.cell? ⟨w.heap.size,2,none⟩=some (.bool o.aN.dt.aG)/\U.cell? ⟨w.heap.size,3,none⟩=some (.string o.aN.dt.host)/\U.cell? ⟨w.heap.size,4,none⟩=some (.int .i64 o.aN.dt.port)/\U.cell? ⟨w.heap.size,5,none⟩=some (.bool o.aN.o.aG)/\U.cell? ⟨w.heap.size,6,none⟩=some (.string o.aN.o.host)/\U.cell? ⟨w.heap.size,7,none⟩=some (.int .i64 o.aN.o.port)/\U.cell? ⟨w.heap.size,8,none⟩=some (.string o.aN.path)/\U.cell? ⟨w.heap.size,9,none⟩=some (.string o.aN.query)/\U.cell? ⟨w.heap.size,10,none⟩=some (.string o.aN.method)/\U.cell? ⟨w.heap.size,11,none⟩=some (.slice ah hs.length ch)/\U.cell? ⟨w.heap.size,12,none⟩=some (.bool o.aN.f_)/\U.cell? ⟨w.heap.size,13,none⟩=some (.string o.aN.body))from fun U hU=>by
    have j1:=(HA.o.dm rU.o).fr hU (fun hb=>Da.o (Or.inr (Or.inl hb)));have j2:=hU.keep (WC.o u2 t_.o) (fun hb=>by
     have h3:=(HH.o.dm rU.o).book.ix hb;obtain⟨c,t,e,hk⟩:=h3;rw[WC.o u2 t_.o]at e;cases e;revert hk;decide)
    obtain⟨a0,a1,a2,a3,a4,a5,a6,a7,a8,a9,jP,jQ,a12,jN,jR,jy,j_,ka,ke,ko,a20,a21⟩:=eA j2 l_.o;exact⟨j1.ib,a1,a2,a3,a4,a5,a6,a7,a8,a9,jP,jQ,a12,jN⟩)
   have HFG:=O (show∀U,Fr aS u2 U->aB 66 #[.pointer (some ⟨v.k,0,none⟩),.agg #[.int .i64 o.aN.part,.bool o.aN.dt.aG,.string o.aN.dt.host,.int .i64 o.aN.dt.port,.bool o.aN.o.aG,.string o.aN.o.host,.int .i64 o.aN.o.port,.string o.aN.path,.string o.aN.query,.string o.aN.method,.slice ah hs.length ch,.bool o.aN.f_,.string o.aN.body]] U (ux base U v.k v.kv p.book (ez.vB (o.aN.dW hs)))from fun U hU=>by
    have:=Ma base U v.k v.kv p.book o.aN hs ((HH.o.dm rU.o).dm hU).book ab;rw[Av l_.o]at this;exact this)
   clear hg;go_wp2_with fail
   go_region_held3 (fun U=>Fr (iH v.k v.kv) u2 U/\U.cell? ⟨B,off+1,none⟩=some (.pointer (some ⟨v.k,0,none⟩))/\U.cell? ⟨w.heap.size,1,none⟩=some (.int .i64 o.aN.part)/\U.cell? ⟨w.heap.size,2,none⟩=some (.bool o.aN.dt.aG)/\U.cell? ⟨w.heap.size,3,none⟩=some (.string o.aN.dt.host)/\U.cell? ⟨w.heap.size,4,none⟩=some (.int .i64 o.aN.dt.port)/\U.cell? ⟨w.heap.size,5,none⟩=some (.bool o.aN.o.aG)/\U.cell? ⟨w.heap.size,6,none⟩=some (.string o.aN.o.host)/\U.cell? ⟨w.heap.size,7,none⟩=some (.int .i64 o.aN.o.port)/\U.cell? ⟨w.heap.size,8,none⟩=some (.string o.aN.path)/\U.cell? ⟨w.heap.size,9,none⟩=some (.string o.aN.query)/\U.cell? ⟨w.heap.size,10,none⟩=some (.string o.aN.method)/\U.cell? ⟨w.heap.size,11,none⟩=some (.slice ah hs.length ch)/\U.cell? ⟨w.heap.size,12,none⟩=some (.bool o.aN.f_)/\U.cell? ⟨w.heap.size,13,none⟩=some (.string o.aN.body)) ((refine(fun hU=>⟨hU,Hw.o _ hU⟩) ?_;first|exact aA (ae _ _)|assumption))
    ((first
     |(go_at_call 66;refine(HFG.o _ (aA (ae _ _))).mono ?_;rintro e u3 ⟨rfl,tO⟩;have xb:Fr (iH v.k v.kv) u2 u3:=(aA (ae _ _)).trans (by obtain⟨_,_,h,_⟩:=tO;exact h))))
   have HPP:=O (ph ((HH.o.dm rU.o).dm (aA (ae aS u2))) ((HA.o.dm rU.o).dm (aA (ae aS u2))) Da.o tO);have BF:=O (xb.keep (t_.o.keep ra.o id) (fun hb=>by
    obtain⟨c,t,e,hk⟩:=(HH.o.dm rU.o).book.ix hb;rw[t_.o.keep ra.o id]at e;cases e;revert hk;decide))
   clear tO xb Hw HFG;go_wp2_with (first|((with_reducible refine cZ 30 ?_);refine aF rfl 30 (.tmp 6) (.tmp 36) rfl (w.heap.size+1) #[.int .i64 2,.string ⟨#[]⟩,.int .i64 0] rfl rfl _ bU BF.o (bf _ rfl) rfl cC ?_)|fail)
   refine aW (bw bD _ _ (w.heap.size+1) 30 #[.int .i64 2,.string ⟨#[]⟩,.int .i64 0] (0,0) _ rfl (a_ u3 (w.heap.size+1) _ _ _ _ BF.o) underlying30 rfl (bf _ rfl)) rfl ?_;unfold eK;rw[HR.o];exact⟨rfl,dC ((HPP.o.after (aA (ae aS u2))).after rU.o) py.o pn.o (bX _) BF.o eQ ag _⟩
  |ok m =>
   rw[hg]at Dx;obtain⟨v2,rfl,rk⟩:=Dx;have HR:=O (show gU p now (o.dW hs)=({p with book:=uN p.book m now},rep 1)by
    unfold gU;rw[show(o.dW hs).text=o.text from rfl,HFL.o];simp only;rw[show uO (o.dW hs).aN (Gm (o.dW hs).dt.dW) l now=.ok m from hg])
   have tu:=S_ hg;have hbo:=(HH.o.dm rU.o).book;have akA:=rk.form;rw[ai]at akA;obtain⟨am,cm,rfl⟩:=akA;have HP:=O (LR base u2 v.k v.kv p.book _ m now hbo rk.at (fun _ k hk hb=>by
    have h1:=rk.block k hk;have h2:=HH.o.jq (Or.inr (Or.inl hb));have h3:=fU.o.size;have h4:=Ji.o.size;omega) ab)
   have c1:=(HA.o.dm rU.o).ib;clear hg tu hbo rk;go_wp2_with fail
   refine HP.o.mono ?_;rintro e u3⟨rfl,tO⟩;have HPP:=O (ph (HH.o.dm rU.o) (HA.o.dm rU.o) Da.o tO);have xb:Fr (iH v.k v.kv) u2 u3:=by obtain⟨_,_,h,_⟩:=tO;exact h
   have BF:=O (xb.keep (t_.o.keep ra.o id) (fun hb=>by
    obtain⟨c,t,e,hk⟩:=(HH.o.dm rU.o).book.ix hb;rw[t_.o.keep ra.o id]at e;cases e;revert hk;decide))
   clear tO xb HP c1;go_wp2_with (first|((with_reducible refine cZ 30 ?_);refine aF rfl 30 (.tmp 6) (.tmp 44) rfl (w.heap.size+1) #[.int .i64 1,.string ⟨#[]⟩,.int .i64 0] rfl rfl _ bU BF.o (bf _ rfl) rfl cC ?_)|fail)
   refine aW (bw bD _ _ (w.heap.size+1) 30 #[.int .i64 1,.string ⟨#[]⟩,.int .i64 0] (0,0) _ rfl (a_ u3 (w.heap.size+1) _ _ _ _ BF.o) underlying30 rfl (bf _ rfl)) rfl ?_;unfold eK;rw[HR.o];exact⟨rfl,dC (HPP.o.after rU.o) py.o pn.o (bX _) BF.o eQ ag _⟩
