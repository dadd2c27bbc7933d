/- Lemmas for the law's walk. -/
import Derived.Test.YtnckmcnffadjoaaGreatDoorPm14
import Derived.Test.YtnckmcnffadjoaaGreatDoorPm24
set_option maxRecDepth 100000
set_option maxHeartbeats 16000000
set_option linter.unusedSimpArgs false
namespace Go.Proofs.YtnckmcnffadjoaaGreatDoor
open Go.Proofs.Tryz
open Go.RowKit
variable {M fuel base ch B:Nat} {ps:List jz} {l:List nt} {gs:List (aP bE)} {cs:aX} {w:World} {o:iY} {hs:List ig} {n:Int} {t:TypeId} {ah:eV} {v:cV}
def GD(a:fK bE):Prop:=a.aK.size<=3000/\a.bq.size<=3000/\a.cy.size<=3000/\a.dom.length<=3001
def VK(g:aP bE):Prop:=GD g.a/\g.user.size<=5000/\g.pass.size<=5000
theorem IE(h:wW M ps){n v:Bs}(e:kr ps n=some v):v.length<=M:=by
 unfold kr at e;cases hf:ps.find? (fun p=>dJ p.1 n)with
 |none=>rw[hf]at e;cases e
 |some p =>
  rw[hf]at e;obtain rfl:p.2=v:=by simpa using e
  exact(h p (List.mem_of_find?_eq_some hf)).2
theorem Qc(h:wW M ps)(n:Bs):((kr ps n).getD []).length<=M:=by
 cases e:kr ps n with
 |none=>exact aQ _
 |some v=>exact IE h e
theorem B4(c:UInt8):∀l:Bs,(ec c l).length<=l.length+1
 |[]=>by simp[ec]
 |x :: l=>by
  have ih:=B4 c l;by_cases hx:x=c
  ·subst hx;rw[rB];simp;exact ih
  ·cases e:ec c l with
   |nil=>exact absurd e (wP c l)
   |cons p ps =>
    rw[oa hx e];rw[e]at ih;simp at ih ⊢; omega
theorem RL(d:Bs):(Ho d).length<=d.length+1:=by
 unfold Ho;rw[ai];exact aG (bU _ _) (B4 32 d)
theorem RM{x:nt}{a:fK bE}(hx:x.Le 3000)(h:nd x=some a):GD a:=by
 have hp:=hx.zg;unfold nd at h;split at h
 ·cases h
 rename_i aK hr;have h1:=IE hp hr;split at h
 ·cases h;exact⟨h1,aQ _,aQ _,aQ _⟩
 split at h
 ·cases h
 split at h
 ·cases h
 split at h
 ·cases h
 rename_i bq hn;have h2:=IE hp hn;split at h
 ·cases h
 ·cases h;refine⟨h1,h2,Qc hp mi,?_⟩;show((Ho ((kr x.params qT).getD [])).map bA).length<=3001;rw[ai];have:=RL ((kr x.params qT).getD []);have:=Qc hp qT;omega
theorem VL:GD Ps:=⟨aQ _,aQ _,aQ _,aQ _⟩
theorem VM(h:∀x∈l,x.Le 3000):GD (ji l):=by
 unfold ji;rcases Qa l Ps with e|⟨x,hx,e⟩
 ·rw[e];exact VL
 ·exact RM (h x hx) e
theorem Qd{r:Bs}(h:mC r=.ok l):GD (ji l):=by
 refine VM (fun x hx=>?_);have h1:=BX h x hx;have h2:=BZ h;exact⟨aG h1.scheme h2,aG h1.token h2,fun p hp=>⟨aG (h1.zg p hp).1 h2,aG (h1.zg p hp).2 h2⟩⟩
theorem Lx{g x:aP bE}(h:x∈vq gs g):x∈gs\/x=g:=by
 unfold vq at h;have h:=eD h;rcases bR.1 h with h|h
 ·exact Or.inl (fe.1 h).1
 ·exact Or.inr (df.1 h)
theorem Ly{ws:List (bJ bE)}{m x:bJ bE}(h:x∈zL ws m):x∈ws\/x=m:=by
 unfold zL at h;have h:=eD h;rcases bR.1 h with h|h
 ·exact Or.inl ((ru _ _ _).subset h)
 ·exact Or.inr (df.1 h)
theorem Be{o:gA}{proxy:Bool}:∀ {ws:List (bJ bE)} {g:bJ bE},(ml o proxy ws).2=some g->g∈ws
 |[],_,h=>by cases h
 |x :: l,g,h=>by
  rw[ml]at h;cases hx:A_ o proxy x
  ·rw[hx]at h;simp only[cJ,eW]at h;exact bQ _ (Be h)
  ·rw[hx]at h;simp only[ef]at h;cases h;exact cY
theorem Lz{o:gA}{proxy:Bool}{path:aj}{P:aP bE->Prop}(hP:∀g,P g->P g.used)(h:∀x∈gs,P x) :
  (∀x∈(vr gs o proxy path).1,P x)/\∀g,(vr gs o proxy path).2=.ok g->P g:=by
 unfold vr;split
 ·split
  ·rename_i g hg;have hl:∀x∈gs.take (tW gs o proxy path).toNat++gs.drop ((tW gs o proxy path).toNat+1),P x:=fun x hx=>by
    rcases bR.1 hx with hx|hx
    ·exact h x (eC hx)
    ·exact h x (eD hx)
   have Ya:P g.used:=hP g (h g (cq hg));simp only;split
   ·exact⟨hl,fun g h=>by cases h⟩
   ·refine⟨fun x hx=>?_,fun g h=>by cases h;exact Ya⟩;rcases bR.1 hx with hx|hx
    ·exact hl x hx
    ·rw[df]at hx;rw[hx];exact Ya
  ·exact⟨h,fun g h=>by cases h⟩
 ·exact⟨h,fun g h=>by cases h⟩
structure rS (p:dS):Prop where
 bH:∀g∈p.bH,VK g
 waits:∀x∈p.waits,GD x.a
theorem rS.no:rS yq:=⟨fun _ h=>(by cases h),fun _ h=>(by cases h)⟩
theorem rS.sP{p:dS}(h:rS p)(now:Int)(o:iY)(hu:o.user.size<=5000)(hp:o.pass.size<=5000):rS (sP p now o).1:=by
 obtain⟨hg,hw⟩:=h;unfold Go.Proofs.YtnckmcnffadjoaaGreatDoor.sP;by_cases h1:o.what=1
 ·rw[az h1];have hU:=(Lz (gs:=p.bH) (o:=o.o) (proxy:=o.proxy) (path:=o.path) (P:=VK) (fun _ h=>h) hg).1;unfold iP;split
  ·rename_i gs e he;rw[he]at hU;exact⟨hU,hw⟩
  ·rename_i gs g he;rw[he]at hU;split
   ·exact⟨fun x hx=>hU x (fe.1 hx).1,hw⟩
   ·exact⟨hU,hw⟩
 rw[aq h1];by_cases h2:o.what=2
 ·rw[az h2];unfold fM;split
  ·exact⟨hg,hw⟩
  ·rename_i l hl;have hb:=Qd hl;split
   ·split
    ·rename_i g hs;refine⟨fun x hx=>?_,hw⟩;rcases Lx hx with hx|rfl
     ·exact hg x hx
     ·unfold D8 at hs;split at hs
      ·rename_i g' Ya;split at hs
       ·cases hs;have:=hg g' (List.mem_of_find?_eq_some Ya);exact⟨hb,this.2⟩
       ·cases hs
      ·cases hs
    ·refine⟨fun x hx=>hg x (fe.1 hx).1,fun x hx=>?_⟩;rcases Ly hx with hx|rfl
     ·exact hw x hx
     ·exact hb
   ·exact⟨hg,hw⟩
 rw[aq h2];by_cases h3:o.what=3
 ·rw[az h3];have hs:=ru o.o o.proxy p.waits;unfold gy;split
  ·rename_i ws e;rw[e]at hs;exact⟨hg,fun x hx=>hw x (hs.subset hx)⟩
  ·rename_i ws x e;have hx:=Be (o:=o.o) (proxy:=o.proxy) (ws:=p.waits) (g:=x) (by rw[e]);rw[e]at hs;refine⟨fun y hy=>?_,fun x hx=>hw x (hs.subset hx)⟩;rcases Lx hy with hy|rfl
   ·exact hg y hy
   ·exact⟨hw x hx,hu,hp⟩
 rw[aq h3];by_cases h4:o.what=4
 ·rw[az h4];exact⟨hg,hw⟩
 rw[aq h4];by_cases h5:o.what=5
 ·rw[az h5];unfold gY;split
  ·exact⟨hg,hw⟩
  ·split
   ·exact⟨hg,hw⟩
   ·exact⟨hg,hw⟩
 rw[aq h5];by_cases h6:o.what=6
 ·rw[az h6];exact⟨hg,hw⟩
 rw[aq h6];by_cases h7:o.what=7
 ·rw[az h7];unfold kj;split
  ·exact⟨hg,hw⟩
  ·exact⟨hg,hw⟩
 rw[aq h7];unfold qm;split
 ·exact rS.no
 ·have Uu:rS (uI p o.o):=⟨fun x hx=>hg x (fe.1 hx).1,fun x hx=>hw x (fe.1 hx).1⟩;split
  ·exact⟨Uu.bH,Uu.waits⟩
  ·exact Uu
def Ea(w:dI):Prop:=∀k,rS (w.part k)
theorem Ea.new:Ea Bc:=fun _=>rS.no
theorem Ea.ku{w:dI}(h:Ea w)(o:iY)(hu:o.user.size<=5000)(hp:o.pass.size<=5000):Ea (ku w o).1:=by
 cases hr:o.right
 ·rw[zQ hr];exact h
 ·by_cases hw:o.what=10
  ·rw[zR hr hw];split
   ·exact h
   ·exact h
  ·rw[wh hr hw];intro k;by_cases hk:k=o.part.toNat
   ·subst hk;rw[nL];exact(h _).sP _ _ hu hp
   ·rw[mU _ _ hk];exact h k
theorem lu(o:jQ)(hs:List ig)(w:World)(h:gI w o hs) :
  aB 28 #[.agg o.cells.toArray] w fun e w'=>e=.returned (.bool (o.dR hs).right)/\Fr aS w w':=by
 have gK:=O (show(o.dR hs).right=(decide (1<=o.what)&&(decide (o.what<=10)&&(rT o.aJ.part o.aJ.method hs&&(nW o.aJ.cX&&(nW o.aJ.o&&(decide (o.aJ.path.size<=200)&&(o.aJ.path.data.toList.head?==some 47&&decide (o.text.size<=3000))))))))from rfl);generalize (o.dR hs).right=res at gK ⊢;obtain⟨ah,ch,gH⟩:=dK h.ey;rw[ai]at gH
 have Ia:o.cells=[.int .i64 o.what,.int .i64 o.aJ.part,.bool o.aJ.cX.aE,.string o.aJ.cX.host,.int .i64 o.aJ.cX.port,.bool o.aJ.o.aE,.string o.aJ.o.host,.int .i64 o.aJ.o.port,.string o.aJ.path,.string o.aJ.query,.string o.aJ.method,.slice ah hs.length ch,.bool o.aJ.fN,.string o.aJ.body,.bool o.proxy,.string o.text,.string o.user,.string o.pass,.string o.bL,.int .i64 o.cert,.bool o.all,.int .i64 o.n]:=by unfold jQ.cells gu.cells;rw[gH];rfl
 have uH:o.aJ.cells=[.int .i64 o.aJ.part,.bool o.aJ.cX.aE,.string o.aJ.cX.host,.int .i64 o.aJ.cX.port,.bool o.aJ.o.aE,.string o.aJ.o.host,.int .i64 o.aJ.o.port,.string o.aJ.path,.string o.aJ.query,.string o.aJ.method,.slice ah hs.length ch,.bool o.aJ.fN,.string o.aJ.body]:=by unfold gu.cells;rw[gH]
 obtain⟨w2,eE⟩:∃w2,w2=(w.alloc (.cells #[.int .i64 o.what,.int .i64 o.aJ.part,.bool o.aJ.cX.aE,.string o.aJ.cX.host,.int .i64 o.aJ.cX.port,.bool o.aJ.o.aE,.string o.aJ.o.host,.int .i64 o.aJ.o.port,.string o.aJ.path,.string o.aJ.query,.string o.aJ.method,.slice ah hs.length ch,.bool o.aJ.fN,.string o.aJ.body,.bool o.proxy,.string o.text,.string o.user,.string o.pass,.string o.bL,.int .i64 o.cert,.bool o.all,.int .i64 o.n] 41)).alloc (.cells #[.int .i64 o.aJ.part,.bool o.aJ.cX.aE,.string o.aJ.cX.host,.int .i64 o.aJ.cX.port,.bool o.aJ.o.aE,.string o.aJ.o.host,.int .i64 o.aJ.o.port,.string o.aJ.path,.string o.aJ.query,.string o.aJ.method,.slice ah hs.length ch,.bool o.aJ.fN,.string o.aJ.body] 37):=⟨_,rfl⟩
 have dB:Fr aS w w2:=by rw[eE];exact((ae aS w).alloc _).alloc _
 have k1:w2.heap[w.heap.size]?=some (.cells #[.int .i64 o.what,.int .i64 o.aJ.part,.bool o.aJ.cX.aE,.string o.aJ.cX.host,.int .i64 o.aJ.cX.port,.bool o.aJ.o.aE,.string o.aJ.o.host,.int .i64 o.aJ.o.port,.string o.aJ.path,.string o.aJ.query,.string o.aJ.method,.slice ah hs.length ch,.bool o.aJ.fN,.string o.aJ.body,.bool o.proxy,.string o.text,.string o.user,.string o.pass,.string o.bL,.int .i64 o.cert,.bool o.all,.int .i64 o.n] 41 (0,0)):=by rw[eE];exact((ae aS _).alloc _).keep (aC _ _) id
 have k2:w2.heap[w.heap.size+1]?=some (.cells #[.int .i64 o.aJ.part,.bool o.aJ.cX.aE,.string o.aJ.cX.host,.int .i64 o.aJ.cX.port,.bool o.aJ.o.aE,.string o.aJ.o.host,.int .i64 o.aJ.o.port,.string o.aJ.path,.string o.aJ.query,.string o.aJ.method,.slice ah hs.length ch,.bool o.aJ.fN,.string o.aJ.body] 37 (0,0)):=by
  have h:=aC (w.alloc (.cells #[.int .i64 o.what,.int .i64 o.aJ.part,.bool o.aJ.cX.aE,.string o.aJ.cX.host,.int .i64 o.aJ.cX.port,.bool o.aJ.o.aE,.string o.aJ.o.host,.int .i64 o.aJ.o.port,.string o.aJ.path,.string o.aJ.query,.string o.aJ.method,.slice ah hs.length ch,.bool o.aJ.fN,.string o.aJ.body,.bool o.proxy,.string o.text,.string o.user,.string o.pass,.string o.bL,.int .i64 o.cert,.bool o.all,.int .i64 o.n] 41)) (.cells #[.int .i64 o.aJ.part,.bool o.aJ.cX.aE,.string o.aJ.cX.host,.int .i64 o.aJ.cX.port,.bool o.aJ.o.aE,.string o.aJ.o.host,.int .i64 o.aJ.o.port,.string o.aJ.path,.string o.aJ.query,.string o.aJ.method,.slice ah hs.length ch,.bool o.aJ.fN,.string o.aJ.body] 37)
  rw[bO]at h;rw[eE];exact h
 have HC:=O (show∀U,Fr aS w2 U->U.cell? ⟨w.heap.size,0,none⟩=some (.int .i64 o.what)/\U.cell? ⟨w.heap.size,15,none⟩=some (.string o.text)/\U.cell? ⟨w.heap.size+1,0,none⟩=some (.int .i64 o.aJ.part)/\U.cell? ⟨w.heap.size+1,1,none⟩=some (.bool o.aJ.cX.aE)/\U.cell? ⟨w.heap.size+1,2,none⟩=some (.string o.aJ.cX.host)/\U.cell? ⟨w.heap.size+1,3,none⟩=some (.int .i64 o.aJ.cX.port)/\U.cell? ⟨w.heap.size+1,4,none⟩=some (.bool o.aJ.o.aE)/\U.cell? ⟨w.heap.size+1,5,none⟩=some (.string o.aJ.o.host)/\U.cell? ⟨w.heap.size+1,6,none⟩=some (.int .i64 o.aJ.o.port)/\U.cell? ⟨w.heap.size+1,7,none⟩=some (.string o.aJ.path)/\U.cell? ⟨w.heap.size+1,8,none⟩=some (.string o.aJ.query)/\U.cell? ⟨w.heap.size+1,9,none⟩=some (.string o.aJ.method)/\U.cell? ⟨w.heap.size+1,10,none⟩=some (.slice ah hs.length ch)/\U.cell? ⟨w.heap.size+1,11,none⟩=some (.bool o.aJ.fN)/\U.cell? ⟨w.heap.size+1,12,none⟩=some (.string o.aJ.body)from fun U hU=>by
  have j1:=hU.keep k1 id;have j2:=hU.keep k2 id;simp[World.cell?,j1,j2])
 have C1:=O (show∀U,Fr aS w2 U->aB 45 #[.agg #[.int .i64 o.aJ.part,.bool o.aJ.cX.aE,.string o.aJ.cX.host,.int .i64 o.aJ.cX.port,.bool o.aJ.o.aE,.string o.aJ.o.host,.int .i64 o.aJ.o.port,.string o.aJ.path,.string o.aJ.query,.string o.aJ.method,.slice ah hs.length ch,.bool o.aJ.fN,.string o.aJ.body]] U fun e w'=>e=.returned (.bool (rT o.aJ.part o.aJ.method hs))/\Fr aS U w' from fun U hU=>by
  have:=N5 o.aJ hs U (bh h.ey (dB.trans hU)) h.aJ;rw[uH]at this;exact this)
 have C2:=O (show∀U,aB 46 #[.agg #[.bool o.aJ.cX.aE,.string o.aJ.cX.host,.int .i64 o.aJ.cX.port]] U fun e w'=>e=.returned (.bool (nW o.aJ.cX))/\Fr aS U w' from fun U=>Gi o.aJ.cX U h.cX);have C3:=O (show∀U,aB 46 #[.agg #[.bool o.aJ.o.aE,.string o.aJ.o.host,.int .i64 o.aJ.o.port]] U fun e w'=>e=.returned (.bool (nW o.aJ.o))/\Fr aS U w' from fun U=>Gi o.aJ.o U h.ori);have hpz:=h.path;have XT:=h.text
 have nI:=O eE;have f_:=O dB;rw[Ia];clear h dB k1 k2 Ia uH gH;obtain⟨a0,jo,b0,b1,b2,b3,b4,b5,b6,b7,b8,b9,Z4,Z5,Z6⟩:=HC.o w2 (ae _ _);rw[eE]at a0 jo b0 b1 b2 b3 b4 b5 b6 b7 b8 b9 Z4 Z5 Z6;clear eE;by_cases h1:o.what>=1
 rotate_left
 ·have HR:=O (show res=false by rw[gK.o,bD (show¬1<=o.what from ab)];rfl);clear gK;go_enter func28,ntmps28;go_wp2;go_ret;exact⟨by rw[HR.o];rfl,by rw[<-nI.o];exact f_.o⟩
 by_cases h2:o.what<=10
 rotate_left
 ·have HR:=O (show res=false by rw[gK.o,bD h2,kA,Bool.and_false]);clear gK;go_enter func28,ntmps28;go_wp2;go_ret;exact⟨by rw[HR.o];rfl,by rw[<-nI.o];exact f_.o⟩
 have NY:=O (show res=(rT o.aJ.part o.aJ.method hs&&(nW o.aJ.cX&&(nW o.aJ.o&&(decide (o.aJ.path.size<=200)&&(o.aJ.path.data.toList.head?==some 47&&decide (o.text.size<=3000))))))by rw[gK.o,bM h2,bM (show 1<=o.what from ab)];rfl);clear gK;go_enter func28,ntmps28;go_wp2_with fail
 rw[<-nI.o];refine(C1.o w2 (ae _ _)).mono ?_;rintro e u1⟨rfl,ui⟩;cases e1:rT o.aJ.part o.aJ.method hs
 ·have HR:=O (show res=false by rw[NY.o,e1];rfl);clear NY e1;go_wp2;go_ret;exact⟨by rw[HR.o];rfl,f_.o.trans ui⟩
 have pg:=O (show res=(nW o.aJ.cX&&(nW o.aJ.o&&(decide (o.aJ.path.size<=200)&&(o.aJ.path.data.toList.head?==some 47&&decide (o.text.size<=3000)))))by rw[NY.o,e1];rfl);have IG:=O ui;clear NY e1 ui a0 jo b0 b1 b2 b3 b4 b5 b6 b7 b8 b9 Z4 Z5 Z6;obtain⟨a0,jo,b0,b1,b2,b3,b4,b5,b6,b7,b8,b9,Z4,Z5,Z6⟩:=HC.o u1 IG.o;go_wp2_with fail
 refine(C2.o u1).mono ?_;rintro e u2⟨rfl,nu⟩;cases e1:nW o.aJ.cX
 ·have HR:=O (show res=false by rw[pg.o,e1];rfl);clear pg e1;go_wp2;go_ret;exact⟨by rw[HR.o];rfl,f_.o.trans (IG.o.trans nu)⟩
 have PE:=O (show res=(nW o.aJ.o&&(decide (o.aJ.path.size<=200)&&(o.aJ.path.data.toList.head?==some 47&&decide (o.text.size<=3000))))by rw[pg.o,e1];rfl);have tI:=O (IG.o.trans nu);clear pg e1 nu a0 jo b0 b1 b2 b3 b4 b5 b6 b7 b8 b9 Z4 Z5 Z6;obtain⟨a0,jo,b0,b1,b2,b3,b4,b5,b6,b7,b8,b9,Z4,Z5,Z6⟩:=HC.o u2 tI.o;go_wp2_with fail
 refine(C3.o u2).mono ?_;rintro e u3⟨rfl,zD⟩;cases e1:nW o.aJ.o
 ·have HR:=O (show res=false by rw[PE.o,e1];rfl);clear PE e1;go_wp2;go_ret;exact⟨by rw[HR.o];rfl,f_.o.trans (tI.o.trans zD)⟩
 have VO:=O (show res=(decide (o.aJ.path.size<=200)&&(o.aJ.path.data.toList.head?==some 47&&decide (o.text.size<=3000)))by rw[PE.o,e1];rfl);have Yb:=O (tI.o.trans zD);clear PE e1 zD a0 jo b0 b1 b2 b3 b4 b5 b6 b7 b8 b9 Z4 Z5 Z6;obtain⟨a0,jo,b0,b1,b2,b3,b4,b5,b6,b7,b8,b9,Z4,Z5,Z6⟩:=HC.o u3 Yb.o;have HFZ:=O (f_.o.trans Yb.o);by_cases h3:(o.aJ.path.size:Int)<=200
 rotate_left
 ·have HR:=O (show res=false by rw[VO.o,bD (show¬o.aJ.path.size<=200 from ab)];rfl);clear VO;go_wp2;go_ret;exact⟨by rw[HR.o];rfl,HFZ.o⟩
 have TE:=O (show res=(o.aJ.path.data.toList.head?==some 47&&decide (o.text.size<=3000))by rw[VO.o,bM (show o.aJ.path.size<=200 from ab)];rfl);clear VO;by_cases h4:(o.aJ.path.size:Int)>0
 rotate_left
 ·have HR:=O (show res=false by
   have e:o.aJ.path.data.toList=[]:=cj (by have:o.aJ.path.data.toList.length=o.aJ.path.size:=by simp
                                           omega)
   rw[TE.o,e];rfl)
  clear TE;go_wp2;go_ret;exact⟨by rw[HR.o];rfl,HFZ.o⟩
 have hp0:0<o.aJ.path.size:=ab;have aiX:=byte_at o.aJ.path 0 hp0;have hhd:o.aJ.path.data.toList.head?=some o.aJ.path[0]:=by rw[List.head?_eq_getElem?];exact aiX
 have Yc:=O (show res=(decide (o.aJ.path[0]=47)&&decide (o.text.size<=3000))by
  rw[TE.o,hhd];by_cases q:o.aJ.path[0]=47
  ·rw[q];rfl
  ·rw[bD q,aL.2 (fun e=>q (j8 e))])
 clear TE hhd aiX;by_cases q:o.aJ.path[0]=47
 rotate_left
 ·have HR:=O (show res=false by rw[Yc.o,bD q];rfl);have q2:((o.aJ.path[0].toNat:Int)==47)=false:=by
   rw[aL];intro e;exact q (iW.1 (by show o.aJ.path[0].toNat=47;omega))
  clear Yc;go_wp2;go_ret;exact⟨by rw[HR.o];rfl,HFZ.o⟩
 have HR:=O (show res=decide (o.text.size<=3000)by rw[Yc.o,bM q];rfl);have q2:((o.aJ.path[0].toNat:Int)==47)=true:=by rw[q];rfl
 clear Yc q;go_wp2;go_ret;exact⟨by show Ending.returned (.bool (decide ((o.text.size:Int)<=3000)))=_;exact fB (by rw[HR.o];exact decide_eq_decide.2 ⟨fun h=>ab,fun h=>ab⟩),HFZ.o⟩
def yw(c:Nat)(P Q:dS):Prop:=(c.testBit 0=true->P.bH=Q.bH/\P.waits=Q.waits)/\(c.testBit 1=true->P.book=Q.book)/\(c.testBit 2=true->P.dL=Q.dL)
def Ek(c:Nat)(P Q:dS):Prop:=(c.testBit 0=false->P.bH=Q.bH/\P.waits=Q.waits)/\(c.testBit 1=false->P.book=Q.book)/\(c.testBit 2=false->P.dL=Q.dL)
def o8(c:Nat)(P F:dS):dS:=⟨if c.testBit 0 then F.bH else P.bH,if c.testBit 0 then F.waits else P.waits,if c.testBit 1 then F.book else P.book,if c.testBit 2 then F.dL else P.dL⟩
def kP(w f:dI)(part:Int)(c:Nat):dI :=
 if 0<=part/\part<4 then{part:=fun i=>if i=part.toNat then o8 c (w.part i) (f.part i)else w.part i,now:=if c.testBit 3 then f.now else w.now}else w
theorem yw.refl(c:Nat)(P:dS):yw c P P:=⟨fun _=>⟨rfl,rfl⟩,fun _=>rfl,fun _=>rfl⟩
theorem Ek.refl(c:Nat)(P:dS):Ek c P P:=⟨fun _=>⟨rfl,rfl⟩,fun _=>rfl,fun _=>rfl⟩
theorem yx{c:Nat}{P F:dS}(h:Ek c F P):o8 c P F=F:=by
 obtain⟨g,w,b,s⟩:=F;obtain⟨h0,h1,h2⟩:=h;unfold o8;simp only[dS.mk.injEq];refine⟨?_,?_,?_,?_⟩
 ·split
  ·rfl
  ·rename_i h;exact(h0 (by simpa using h)).1.symm
 ·split
  ·rfl
  ·rename_i h;exact(h0 (by simpa using h)).2.symm
 ·split
  ·rfl
  ·rename_i h;exact(h1 (by simpa using h)).symm
 ·split
  ·rfl
  ·rename_i h;exact(h2 (by simpa using h)).symm
abbrev nM := @Ek.refl
open Go.ChangeShapes Go.WideShapes Go.ChangeAt Go.RowKit Go.Deep
variable {H : Type} {enc : TypeId × Value → H} {W : World}
structure sV (w:World) (o:jQ) (hs:List ig):Prop where
 aJ:Xu w o.aJ hs
 text:o.text.size<=140737488351232
 user:o.user.size<=140737488351232
 pass:o.pass.size<=140737488351232
 bL:o.bL.size<=140737488351232
 what:(Lit.int .i64 o.what).wf=true
 cert:(Lit.int .i64 o.cert).wf=true
 n:(Lit.int .i64 o.n).wf=true
abbrev ED(w:World)(v:Value)(os:List (jQ×List ig)):Prop:=dY 22 w v (os.map fun o=>o.1.cells)/\os.length<=140737488355328/\∀o∈os,sV w o.1 o.2
theorem Ms:prog.cellsOf 41=22:=af
theorem Ao:prog.cellsOf 39=2:=af
theorem akK{α:Type}{l:List α}(h:l.length=22):∃a0 a1 a2 a3 a4 a5 a6 a7 a8 a9 jI jJ a12 jG jK jo jV jW jX ka a20 a21,l=[a0,a1,a2,a3,a4,a5,a6,a7,a8,a9,jI,jJ,a12,jG,jK,jo,jV,jW,jX,ka,a20,a21]:=by
 match l,h with
 |[a0,a1,a2,a3,a4,a5,a6,a7,a8,a9,jI,jJ,a12,jG,jK,jo,jV,jW,jX,ka,a20,a21],_=>exact⟨a0,a1,a2,a3,a4,a5,a6,a7,a8,a9,jI,jJ,a12,jG,jK,jo,jV,jW,jX,ka,a20,a21,rfl⟩
theorem OY{x:DataW H×List MemPlace}(h:DataW.trod enc prog W 0 (fun _=>true) true fuel 39 cs=some x) :
  ∃u p:aj,cs=[.string u,.string p]/\(o_ prog 39 x.1->u.size<=reachBytes/\p.size<=reachBytes):=by
 obtain⟨hl,n,hf⟩:=nZ underlying39 h;rw[Ao]at hl;obtain⟨c0,c1,rfl⟩:=akH hl;obtain⟨y0,h0,l0⟩:=hf 0 9 0 _ rfl iU;obtain⟨y1,h1,l1⟩:=hf 1 9 1 _ rfl iU;simp only[List.drop,List.take]at h0 h1;obtain⟨u,eu,wu⟩:=ft underlying9 h0;obtain⟨q,eq,wq⟩:=ft underlying9 h1;simp only[fF,iM]at eu eq;subst eu eq;exact⟨u,q,rfl,fun hL=>⟨wu (l0 hL),wq (l1 hL)⟩⟩
theorem Qy{x:DataW H×List MemPlace}(h:DataW.trod enc prog W 0 (fun _=>true) true fuel 41 cs=some x) :
  ∃b:jQ×List ig,cs=b.1.cells/\cs.length=22/\(∀u∈cs,u.oneCell'=true)/\(o_ prog 41 x.1->sV W b.1 b.2):=by
 obtain⟨hl,n,hf⟩:=nZ underlying41 h;rw[Ms]at hl;obtain⟨c0,c1,c2,c3,c4,c5,c6,c7,c8,c9,GA,TB,c12,c13,c14,c15,c16,c17,c18,c19,c20,c21,rfl⟩:=akK hl;obtain⟨y0,h0,l0⟩:=hf 0 3 0 _ rfl pR;obtain⟨y1,h1,l1⟩:=hf 1 37 1 _ rfl Hb;obtain⟨y2,h2,l2⟩:=hf 2 4 14 _ rfl uS;obtain⟨y3,h3,l3⟩:=hf 3 9 15 _ rfl iU;obtain⟨y4,h4,l4⟩:=hf 4 39 16 _ rfl Ao;obtain⟨y5,h5,l5⟩:=hf 5 9 18 _ rfl iU
 obtain⟨y6,h6,l6⟩:=hf 6 3 19 _ rfl pR;obtain⟨y7,h7,l7⟩:=hf 7 4 20 _ rfl uS;obtain⟨y8,h8,l8⟩:=hf 8 3 21 _ rfl pR;simp only[List.drop,List.take]at h0 h1 h2 h3 h4 h5 h6 h7 h8;obtain⟨b0,e0,w0⟩:=kG underlying3 h0;obtain⟨r,⟨e1,_⟩,_,o1,s1⟩:=Xv h1;obtain⟨b2,e2⟩:=nN underlying4 h2;obtain⟨b3,e3,w3⟩:=ft underlying9 h3;obtain⟨u4,p4,e4,s4⟩:=OY h4;obtain⟨b5,e5,w5⟩:=ft underlying9 h5
 obtain⟨b6,e6,w6⟩:=kG underlying3 h6;obtain⟨b7,e7⟩:=nN underlying4 h7;obtain⟨b8,e8,w8⟩:=kG underlying3 h8;rw[e1]at o1;unfold gu.cells at e1;simp only[fF,iM]at e0 e1 e2 e3 e4 e5 e6 e7 e8;obtain⟨rfl,rfl,rfl,rfl,rfl,rfl,rfl,rfl,rfl,rfl,rfl,rfl,rfl⟩:=e1;obtain⟨rfl,rfl⟩:=e4;subst e0 e2 e3 e5 e6 e7 e8;have eb:∀u∈(⟨b0,r.1,b2,b3,u4,p4,b5,b6,b7,b8⟩:jQ).cells,u.oneCell'=true:=by
  intro u hu;unfold jQ.cells at hu;rcases bB.1 hu with rfl|hu
  ·rfl
  rcases bR.1 hu with hu|hu
  ·exact o1 u hu
  ·simp only[bB,cz,dX]at hu;rcases hu with rfl|rfl|rfl|rfl|rfl|rfl|rfl|rfl<;>rfl
 refine⟨(⟨b0,r.1,b2,b3,u4,p4,b5,b6,b7,b8⟩,r.2),rfl,rfl,eb,fun hL=>?_⟩;have q4:=s4 (l4 hL);exact⟨s1 (l1 hL),w3 (l3 hL),q4.1,q4.2,w5 (l5 hL),w0,w6,w8⟩
instance:Inhabited (jQ×List ig):=⟨(⟨0,⟨0,⟨false,.empty,0⟩,⟨false,.empty,0⟩,.empty,.empty,.empty,.nilIface,false,.empty⟩,false,.empty,.empty,.empty,.empty,0,false,0⟩,[])⟩
theorem OZ{v:Value}{d:DataW H}{p:List MemPlace}(hv:Value.okWide prog W .any base 41 v)(h:DataW.Trod enc prog W 0 (fun _=>true) true 41 v d p)(hL:o_ prog 41 d) :
  ∃(o:jQ) (hs:List ig),v=.agg o.cells.toArray/\sV W o hs:=by
 obtain⟨cs,rfl,_⟩:=okWide_struct underlying41 hv;obtain⟨fuel,hf⟩:=h;simp only[Value.cells]at hf;obtain⟨b,e,_,_,hs⟩:=Qy hf;refine⟨b.1,b.2,?_,hs hL⟩
 congr 1
 apply Array.ext';rw[e]
theorem EF(base:Nat)(w:World)(B:Nat)(pv:Nat->cV)(x:dI)(h:cD base w B pv x) :
  aB 24 #[.pointer (some ⟨B,0,none⟩)] w fun e w'=>e=.returned (.int .i64 x.now)/\w'=w:=by
 have c:w.cell? ⟨B,12,none⟩=some (.int .i64 x.now):=by
  simp only[World.cell?,h.eL];rfl
 clear h;go_enter func24,ntmps24;go_wp2;go_ret;exact⟨rfl,rfl⟩
def mH(p:dS):Prop:=∀x∈p.waits,x.path.size<=5000
theorem mH.no:mH yq:=fun _ h=>by cases h
theorem mH.same{p q:dS}(h:mH p)(e:q.waits=p.waits):mH q:=by unfold mH;rw[e];exact h
theorem mH.sub{p q:dS}(h:mH p)(e:∀x∈q.waits,x∈p.waits):mH q:=fun x hx=>h x (e x hx)
theorem mH.sP{p:dS}(h:mH p)(now:Int)(o:iY)(hp:o.path.size<=5000):mH (sP p now o).1:=by
 unfold Go.Proofs.YtnckmcnffadjoaaGreatDoor.sP;by_cases h1:o.what=1
 ·rw[az h1];unfold iP;split
  ·exact h.same rfl
  ·split
   ·exact h.same rfl
   ·exact h.same rfl
 rw[aq h1];by_cases h2:o.what=2
 ·rw[az h2];unfold fM;split
  ·exact h
  ·split
   ·split
    ·exact h.same rfl
    ·intro x hx;rcases Ly hx with hx|rfl
     ·exact h x hx
     ·exact hp
   ·exact h
 rw[aq h2];by_cases h3:o.what=3
 ·rw[az h3];have hs:=ru o.o o.proxy p.waits;unfold gy;split
  ·rename_i ws e;rw[e]at hs;exact h.sub (fun x hx=>hs.subset hx)
  ·rename_i ws x e;rw[e]at hs;exact h.sub (fun x hx=>hs.subset hx)
 rw[aq h3];by_cases h4:o.what=4
 ·rw[az h4];exact h
 rw[aq h4];by_cases h5:o.what=5
 ·rw[az h5];unfold gY;split
  ·exact h
  ·split
   ·exact h.same rfl
   ·exact h.same rfl
 rw[aq h5];by_cases h6:o.what=6
 ·rw[az h6];exact h
 rw[aq h6];by_cases h7:o.what=7
 ·rw[az h7];unfold kj;split
  ·exact h
  ·exact h.same rfl
 rw[aq h7];unfold qm;split
 ·exact mH.no
 ·split
  ·exact h.sub (fun x hx=>(fe.1 hx).1)
  ·exact h.sub (fun x hx=>(fe.1 hx).1)
def Eb(w:dI):Prop:=∀i,mH (w.part i)
theorem Eb.new:Eb Bc:=fun _=>mH.no
theorem Eb.ku{w:dI}(h:Eb w)(o:iY)(hp:o.path.size<=5000):Eb (ku w o).1:=by
 unfold Go.Proofs.YtnckmcnffadjoaaGreatDoor.ku;split
 ·split
  ·split
   ·exact h
   ·exact h
  ·intro i;show mH ((w.set _ _).part i);unfold dI.set;simp only;split
   ·exact(h _).sP _ _ hp
   ·exact h i
 ·exact h
def bT:bS:= #[.int .i64 0,.string ⟨#[]⟩,.int .i64 0]
theorem gI.gZ{o:jQ}(h:gI w o hs):∃ah ch,o.aJ.ey=.slice ah hs.length ch:=by
 obtain⟨a,c,e⟩:=dK h.ey;rw[ai]at e;exact⟨a,c,e⟩
section
variable {base : Nat} {w w' : World} {B o : Nat} {cs : List Value} {v : cV} {p : dS}
theorem eQ.fi(h:eQ base w v p){n:Nat}{old:bS}(hn:w.heap[n]?=some (.cells old t (0,0)))(ht:t≠89/\t≠114/\t≠133/\t≠92/\t≠155/\t≠97):¬v.j_ n:=fun hf=>by
 obtain⟨c,t',e,h'⟩:=h.iw hf;rw[hn]at e;cases e;obtain⟨h1,h2,h3,h4,h5,h6⟩:=ht;rcases h' with h|h|h|h|h|h
 ·exact h1 h
 ·exact h2 h
 ·exact h3 h
 ·exact h4 h
 ·exact h5 h
 ·exact h6 h
theorem dk.row(h:dk base w B cs o v p w'){n:Nat}{old:bS}{t:TypeId}(oB:base<=w.heap.size)(hB:B<w.heap.size)(hn:w.heap.size<=n)(hr:w'.heap[n]?=some (.cells old t (0,0)))
  (ht:t≠89/\t≠114/\t≠133/\t≠92/\t≠155/\t≠97)(hs:t≠9)(new:bS):dk base w B cs o v p (w'.setRow n new):=by
 obtain⟨v',h1,h2,h3,h4⟩:=h;have kH:Fr (one n) w' (w'.setRow n new):=(ae (one n) w').setRow (fun _=>rfl) _;have mS:rY base w' (one n):=by
  rintro k rfl _;exact⟨ab,fun c f e=>by rw[hr]at e;cases e;exact hs rfl⟩
 refine⟨v',h1.fr kH mS (fun i hi e=>?_),h2.step kH (fun k hk e=>?_),h3,kH.keep h4 (fun e=>?_)⟩
 ·have e':i=n:=e;subst e';exact h1.fi hr ht hi
 ·have e':k=n:=e;omega
 ·have e':B=n:=e;omega
end
theorem eN:(30:TypeId)≠89/\(30:TypeId)≠114/\(30:TypeId)≠133/\(30:TypeId)≠92/\(30:TypeId)≠155/\(30:TypeId)≠97:=ag
theorem bf(x:bS)(h:x.size=3):(prog.info? 30).map (·.size)=some x.size:=by rw[h];kernel_rfl
theorem ep{b:Nat}{o:jQ}(h:w.heap[b]?=some (.cells o.cells.toArray 41 (0,0)))(hh:o.aJ.ey=.slice ah hs.length ch):w.cell? ⟨b,0,none⟩=some (.int .i64 o.what)/\w.cell? ⟨b,1,none⟩=some (.int .i64 o.aJ.part)/\w.cell? ⟨b,2,none⟩=some (.bool o.aJ.cX.aE)/\w.cell? ⟨b,3,none⟩=some (.string o.aJ.cX.host)/\w.cell? ⟨b,4,none⟩=some (.int .i64 o.aJ.cX.port)/\w.cell? ⟨b,5,none⟩=some (.bool o.aJ.o.aE)/\w.cell? ⟨b,6,none⟩=some (.string o.aJ.o.host)/\w.cell? ⟨b,7,none⟩=some (.int .i64 o.aJ.o.port)/\w.cell? ⟨b,8,none⟩=some (.string o.aJ.path)/\w.cell? ⟨b,9,none⟩=some (.string o.aJ.query)/\w.cell? ⟨b,10,none⟩=some (.string o.aJ.method)/\w.cell? ⟨b,11,none⟩=some (.slice ah hs.length ch)/\w.cell? ⟨b,12,none⟩=some (.bool o.aJ.fN)/\w.cell? ⟨b,13,none⟩=some (.string o.aJ.body)/\w.cell? ⟨b,14,none⟩=some (.bool o.proxy)/\w.cell? ⟨b,15,none⟩=some (.string o.text)/\w.cell? ⟨b,16,none⟩=some (.string o.user)/\w.cell? ⟨b,17,none⟩=some (.string o.pass)/\w.cell? ⟨b,18,none⟩=some (.string o.bL)/\w.cell? ⟨b,19,none⟩=some (.int .i64 o.cert)/\w.cell? ⟨b,20,none⟩=some (.bool o.all)/\w.cell? ⟨b,21,none⟩=some (.int .i64 o.n):=by
 have e:o.cells=[.int .i64 o.what,.int .i64 o.aJ.part,.bool o.aJ.cX.aE,.string o.aJ.cX.host,.int .i64 o.aJ.cX.port,.bool o.aJ.o.aE,.string o.aJ.o.host,.int .i64 o.aJ.o.port,.string o.aJ.path,.string o.aJ.query,.string o.aJ.method,.slice ah hs.length ch,.bool o.aJ.fN,.string o.aJ.body,.bool o.proxy,.string o.text,.string o.user,.string o.pass,.string o.bL,.int .i64 o.cert,.bool o.all,.int .i64 o.n]:=by unfold jQ.cells gu.cells;rw[hh];rfl
 rw[e]at h;simp only[World.cell?,h];exact⟨rfl,rfl,rfl,rfl,rfl,rfl,rfl,rfl,rfl,rfl,rfl,rfl,rfl,rfl,rfl,rfl,rfl,rfl,rfl,rfl,rfl,rfl⟩
theorem d_{o:jQ}(hh:o.aJ.ey=.slice ah hs.length ch):o.cells=[.int .i64 o.what,.int .i64 o.aJ.part,.bool o.aJ.cX.aE,.string o.aJ.cX.host,.int .i64 o.aJ.cX.port,.bool o.aJ.o.aE,.string o.aJ.o.host,.int .i64 o.aJ.o.port,.string o.aJ.path,.string o.aJ.query,.string o.aJ.method,.slice ah hs.length ch,.bool o.aJ.fN,.string o.aJ.body,.bool o.proxy,.string o.text,.string o.user,.string o.pass,.string o.bL,.int .i64 o.cert,.bool o.all,.int .i64 o.n]:=by unfold jQ.cells gu.cells;rw[hh];rfl
theorem zW{o:jQ}(hh:o.aJ.ey=.slice ah hs.length ch):o.aJ.cells=[.int .i64 o.aJ.part,.bool o.aJ.cX.aE,.string o.aJ.cX.host,.int .i64 o.aJ.cX.port,.bool o.aJ.o.aE,.string o.aJ.o.host,.int .i64 o.aJ.o.port,.string o.aJ.path,.string o.aJ.query,.string o.aJ.method,.slice ah hs.length ch,.bool o.aJ.fN,.string o.aJ.body]:=by unfold gu.cells;rw[hh]
def eI(base:Nat)(w:World)(B:Nat)(cs:aX)(off:Nat)(v:cV)(r:dS×kI)(e:Ending)(w':World):Prop :=
 e=.returned r.2.val/\dk base w B cs off v r.1 w'
abbrev dz := @dk.row
theorem El(hr:o.right=true):1<=o.what/\o.what<=10:=by
 unfold iY.right at hr;simp only[cF,dG]at hr;exact⟨hr.1,hr.2.1⟩
theorem dS.apx{P Q:dS}(h1:P.bH=Q.bH)(h2:P.waits=Q.waits)(h3:P.book=Q.book)(h4:P.dL=Q.dL):P=Q:=by
 cases P;cases Q;simp only at h1 h2 h3 h4;rw[h1,h2,h3,h4]
theorem Aa{P Q:dS}(h:P.bH=Q.bH):(iP P o).2=(iP Q o).2/\(iP P o).1.bH=(iP Q o).1.bH/\(iP P o).1.waits=P.waits/\(iP P o).1.book=P.book/\(iP P o).1.dL=P.dL:=by
 unfold iP;rw[h];split
 ·exact⟨rfl,rfl,rfl,rfl,rfl⟩
 ·split<;>exact⟨rfl,rfl,rfl,rfl,rfl⟩
theorem Fw{P Q:dS}(h:P.bH=Q.bH)(h':P.waits=Q.waits):(fM P o).2=(fM Q o).2/\(fM P o).1.bH=(fM Q o).1.bH/\(fM P o).1.waits=(fM Q o).1.waits/\(fM P o).1.book=P.book/\(fM P o).1.dL=P.dL:=by
 unfold fM;rw[h,h'];split
 ·exact⟨rfl,(by first|rfl|exact h),(by first|rfl|exact h'),rfl,rfl⟩
 ·split
  ·split
   ·exact⟨rfl,rfl,(by first|rfl|exact h'),rfl,rfl⟩
   ·exact⟨rfl,rfl,rfl,rfl,rfl⟩
  ·exact⟨rfl,(by first|rfl|exact h),(by first|rfl|exact h'),rfl,rfl⟩
theorem Em{P Q:dS}(h:P.bH=Q.bH)(h':P.waits=Q.waits):(gy P o).2=(gy Q o).2/\(gy P o).1.bH=(gy Q o).1.bH/\(gy P o).1.waits=(gy Q o).1.waits/\(gy P o).1.book=P.book/\(gy P o).1.dL=P.dL:=by
 unfold gy;rw[h,h'];split
 ·exact⟨rfl,(by first|rfl|exact h),rfl,rfl,rfl⟩
 ·exact⟨rfl,rfl,rfl,rfl,rfl⟩
theorem Fx{P Q:dS}{now:Int}(h:P.book=Q.book):(gY P now o).2=(gY Q now o).2/\(gY P now o).1.book=(gY Q now o).1.book/\(gY P now o).1.bH=P.bH/\(gY P now o).1.waits=P.waits/\(gY P now o).1.dL=P.dL:=by
 unfold gY;rw[h];split
 ·exact⟨rfl,(by first|rfl|exact h),rfl,rfl,rfl⟩
 ·split<;>exact⟨rfl,rfl,rfl,rfl,rfl⟩
theorem IQ{P Q:dS}(h:P.dL=Q.dL):(kj P o).2=(kj Q o).2/\(kj P o).1.dL=(kj Q o).1.dL/\(kj P o).1.bH=P.bH/\(kj P o).1.waits=P.waits/\(kj P o).1.book=P.book:=by
 unfold kj;rw[h];split
 ·exact⟨rfl,(by first|rfl|exact h),rfl,rfl,rfl⟩
 ·exact⟨rfl,rfl,rfl,rfl,rfl⟩
theorem ae2{p:dS}(h:o.what=1):sP p n o=iP p o:=by
 unfold sP;rw[az h]
theorem ae3{p:dS}(h:o.what=2):sP p n o=fM p o:=by
 unfold sP;rw[aq ab,az h]
theorem ae4{p:dS}(h:o.what=3):sP p n o=gy p o:=by
 unfold sP;rw[aq ab,aq ab,az h]
theorem ae5{p:dS}(h:o.what=4):sP p n o=(p,rep (if mF p.book o.aJ n then 5 else 4)):=by
 unfold sP;rw[aq ab,aq ab,aq ab,az h]
theorem ae6{p:dS}(h:o.what=5):sP p n o=gY p n o:=by
 unfold sP;rw[aq ab,aq ab,aq ab,aq ab,az h]
theorem ae7{p:dS}(h:o.what=6):sP p n o=(p,Ls p o):=by
 unfold sP;rw[aq ab,aq ab,aq ab,aq ab,aq ab,az h]
theorem ae8{p:dS}(h:o.what=7):sP p n o=kj p o:=by
 unfold sP;rw[aq ab,aq ab,aq ab,aq ab,aq ab,aq ab,az h]
theorem aax{p:dS}(h:o.what=8\/o.what=9):sP p n o=qm p o:=by
 unfold sP;rw[aq ab,aq ab,aq ab,aq ab,aq ab,aq ab,aq ab]
theorem Ws(hr:o.right=true)(h:o.what=1):dp o=(1,true):=by
 unfold dp;rw[az hr,az ab]
theorem Wt(hr:o.right=true)(h:o.what=2):dp o=(1,true):=by
 unfold dp;rw[az hr,az ab]
theorem Wu(hr:o.right=true)(h:o.what=3):dp o=(1,true):=by
 unfold dp;rw[az hr,az ab]
theorem Wv(hr:o.right=true)(h:o.what=4):dp o=(10,false):=by
 unfold dp;rw[az hr,aq ab,az h]
theorem Ww(hr:o.right=true)(h:o.what=5):dp o=(10,true):=by
 unfold dp;rw[az hr,aq ab,aq ab,az h]
theorem Wx(hr:o.right=true)(h:o.what=6):dp o=(4,false):=by
 unfold dp;rw[az hr,aq ab,aq ab,aq ab,az h]
theorem Wy(hr:o.right=true)(h:o.what=7):dp o=(4,true):=by
 unfold dp;rw[az hr,aq ab,aq ab,aq ab,aq ab,az h]
theorem Wz(hr:o.right=true)(h:o.what=8):dp o=(1,true):=by
 unfold dp;rw[az hr,az ab]
theorem WA(hr:o.right=true)(h:o.what=9):dp o=(7,true):=by
 unfold dp;rw[az hr,aq ab,aq ab,aq ab,aq ab,aq ab,aq ab]
theorem GV(hr:o.right=true)(h:o.what=10):dp o=(8,true):=by
 unfold dp;rw[az hr,aq ab,aq ab,aq ab,aq ab,aq ab,az h]
theorem GW{P Q:dS}{m:Int}(hr:o.right=true)(TI:o.what≠10)(ha:yw (dp o).1 P Q)(hn:(dp o).1.testBit 3=true->n=m) :
  (sP P n o).2=(sP Q m o).2/\yw (dp o).1 (sP P n o).1 (sP Q m o).1/\Ek (dp o).1 (sP P n o).1 P/\((dp o).2=false->(sP P n o).1=P):=by
 have hw:=El hr;have ajI:o.what=1\/o.what=2\/o.what=3\/o.what=4\/o.what=5\/o.what=6\/o.what=7\/o.what=8\/o.what=9:=ab;rcases ajI with h|h|h|h|h|h|h|h|h
 ·rw[Ws hr h]at ha hn ⊢;rw[ae2 h,ae2 h];obtain⟨hg,hw'⟩:=ha.1 rfl;obtain⟨e1,e2,e3,e4,e5⟩:=Aa (o:=o) hg;obtain⟨_,_,f3,_,_⟩:=Aa (P:=Q) (Q:=Q) (o:=o) rfl;exact⟨e1,⟨fun _=>⟨e2,by rw[e3,f3,hw']⟩,fun h=>absurd h ag,fun h=>absurd h ag⟩,⟨fun h=>absurd h ag,fun _=>e4,fun _=>e5⟩,fun h=>(by cases h)⟩
 ·rw[Wt hr h]at ha hn ⊢;rw[ae3 h,ae3 h];obtain⟨hg,hw'⟩:=ha.1 rfl;obtain⟨e1,e2,e3,e4,e5⟩:=Fw (o:=o) hg hw';exact⟨e1,⟨fun _=>⟨e2,e3⟩,fun h=>absurd h ag,fun h=>absurd h ag⟩,⟨fun h=>absurd h ag,fun _=>e4,fun _=>e5⟩,fun h=>(by cases h)⟩
 ·rw[Wu hr h]at ha hn ⊢;rw[ae4 h,ae4 h];obtain⟨hg,hw'⟩:=ha.1 rfl;obtain⟨e1,e2,e3,e4,e5⟩:=Em (o:=o) hg hw';exact⟨e1,⟨fun _=>⟨e2,e3⟩,fun h=>absurd h ag,fun h=>absurd h ag⟩,⟨fun h=>absurd h ag,fun _=>e4,fun _=>e5⟩,fun h=>(by cases h)⟩
 ·rw[Wv hr h]at ha hn ⊢;rw[ae5 h,ae5 h];have hb:=ha.2.1 rfl;have Dj:=hn rfl;exact⟨by rw[hb,Dj],ha,nM _ _,fun _=>rfl⟩
 ·rw[Ww hr h]at ha hn ⊢;have hb:=ha.2.1 rfl;have Dj:=hn rfl;subst Dj;rw[ae6 h,ae6 h];obtain⟨e1,e2,e3,e4,e5⟩:=Fx (o:=o) (now:=n) hb;exact⟨e1,⟨fun h=>absurd h ag,fun _=>e2,fun h=>absurd h ag⟩,⟨fun _=>⟨e3,e4⟩,fun h=>absurd h ag,fun _=>e5⟩,fun h=>(by cases h)⟩
 ·rw[Wx hr h]at ha hn ⊢;rw[ae7 h,ae7 h];have hc:=ha.2.2 rfl;exact⟨by unfold Ls;rw[hc],ha,nM _ _,fun _=>rfl⟩
 ·rw[Wy hr h]at ha hn ⊢;rw[ae8 h,ae8 h];have hc:=ha.2.2 rfl;obtain⟨e1,e2,e3,e4,e5⟩:=IQ (o:=o) hc;exact⟨e1,⟨fun h=>absurd h ag,fun h=>absurd h ag,fun _=>e2⟩,⟨fun _=>⟨e3,e4⟩,fun _=>e5,fun h=>absurd h ag⟩,fun h=>(by cases h)⟩
 ·rw[Wz hr h]at ha hn ⊢;rw[aax (Or.inl h),aax (Or.inl h)];obtain⟨hg,hw'⟩:=ha.1 rfl;unfold qm;rw[aq (by simp[h]),aq (by simp[h]),aq (by simp[h]),aq (by simp[h])];unfold uI;exact⟨rfl,⟨fun _=>⟨by simp only[hg],by simp only[hw']⟩,fun h=>absurd h ag,fun h=>absurd h ag⟩,⟨fun h=>absurd h ag,fun _=>rfl,fun _=>rfl⟩,fun h=>(by cases h)⟩
 ·rw[WA hr h]at ha hn ⊢;rw[aax (Or.inr h),aax (Or.inr h)];obtain⟨hg,hw'⟩:=ha.1 rfl;have e:P=Q:=dS.apx hg hw' (ha.2.1 rfl) (ha.2.2 rfl);subst e;exact⟨rfl,yw.refl _ _,⟨fun h=>absurd h ag,fun h=>absurd h ag,fun h=>absurd h ag⟩,fun h=>(by cases h)⟩
theorem GX{part:Int}(h0:0<=part)(h1:part<4)(w f:dI)(c:Nat):kP w f part c={part:=fun i=>if i=part.toNat then o8 c (w.part i) (f.part i)else w.part i,now:=if c.testBit 3 then f.now else w.now}:=by
 unfold kP;rw[az ⟨h0,h1⟩]
theorem LQ(w:dI)(part:Int):kP w w part 0=w:=by
 unfold kP;split
 ·refine dI.eq (fun i=>?_) rfl;show(if i=_ then o8 0 (w.part i) (w.part i)else w.part i)=w.part i;split
  ·exact yx (nM _ _)
  ·rfl
 ·rfl
theorem Bn(hr:o.right=false):dp o=(0,false):=by unfold dp;rw[hr];rfl
theorem Oo{w:dI}(h:(dp o).2=false):(ku w o).1=w:=by
 cases hr:o.right
 ·rw[zQ hr]
 ·by_cases TI:o.what=10
  ·rw[GV hr TI]at h;cases h
  ·obtain⟨_,_,_,e4⟩:=GW (P:=w.part o.part.toNat) (Q:=w.part o.part.toNat) (n:=w.now) (m:=w.now) hr TI (yw.refl _ _) (fun _=>rfl);rw[wh hr TI,e4 h,oW]
theorem Sg(w:dI)(o:iY):kP w (ku w o).1 o.part (dp o).1=(ku w o).1:=by
 cases hr:o.right
 ·rw[zQ hr,Bn hr];exact LQ w o.part
 ·obtain⟨p0,p1⟩:=jT hr;rw[GX p0 p1];by_cases TI:o.what=10
  ·rw[GV hr TI];refine dI.eq (fun i=>?_) ?_
   ·have hp:(ku w o).1.part=w.part:=by rw[zR hr TI];split<;>rfl
    show(if i=o.part.toNat then o8 8 (w.part i) ((ku w o).1.part i)else w.part i)=(ku w o).1.part i;rw[hp];split
    ·exact yx (nM _ _)
    ·rfl
   ·rfl
  ·obtain⟨_,_,e3,_⟩:=GW (P:=w.part o.part.toNat) (Q:=w.part o.part.toNat) (n:=w.now) (m:=w.now) hr TI (yw.refl _ _) (fun _=>rfl);rw[wh hr TI];refine dI.eq (fun i=>?_) ?_
   ·show(if i=o.part.toNat then o8 (dp o).1 (w.part i) ((w.set o.part.toNat (sP (w.part o.part.toNat) w.now o).1).part i)else w.part i)=(w.set o.part.toNat (sP (w.part o.part.toNat) w.now o).1).part i;by_cases hi:i=o.part.toNat
    ·subst hi;rw[az rfl,nL];exact yx e3
    ·rw[aq hi,mU _ _ hi]
   ·show(if(dp o).1.testBit 3=true then w.now else w.now)=w.now;split<;>rfl
theorem wL(base:Nat)(w:World)(B:Nat)(pv:Nat->cV)(x:dI)(h:cD base w B pv x)(i:Nat)(hi:i<4)(hl:(x.part i).bH.length<68719476736) :
  aB 29 #[.pointer (some ⟨B,0,none⟩),.int .i64 i] w (DP base w (x.part i).bH):=by
 have c:=(h.partAt hi).cell0;have HR:=O (DQ base w (pv i).b (pv i).gv (pv i).wv (x.part i).bH (x.part i).waits (h.part i hi).oz hl);have M4:(i:Int)<4:=ab;have qA:¬(i:Int)<0:=ab;have Ny:¬(4:Int)<=(i:Int):=ab;have KP:(0:Int)<=(i:Int):=ab;clear h hl;go_enter func29,ntmps29;go_wp2_with fail
 refine HR.o.mono ?_;rintro e u⟨v',rfl,hg⟩;go_wp2;go_ret;exact⟨v',rfl,hg⟩
theorem EI(base:Nat)(w:World)(B:Nat)(pv:Nat->cV)(x:dI)(h:cD base w B pv x)(i:Nat)(hi:i<4)(hl:(x.part i).waits.length<68719476736) :
  aB 72 #[.pointer (some ⟨B,0,none⟩),.int .i64 i] w (Gt base w (x.part i).waits):=by
 have c:=(h.partAt hi).cell0;have HR:=O (Gu base w (pv i).b (pv i).gv (pv i).wv (x.part i).bH (x.part i).waits (h.part i hi).oz hl);have M4:(i:Int)<4:=ab;have qA:¬(i:Int)<0:=ab;have Ny:¬(4:Int)<=(i:Int):=ab;have KP:(0:Int)<=(i:Int):=ab;clear h hl;go_enter func72,ntmps72;go_wp2_with fail
 refine HR.o.mono ?_;rintro e u⟨v',rfl,hg⟩;go_wp2;go_ret;exact⟨v',rfl,hg⟩
theorem Cc(base:Nat)(w:World)(B:Nat)(pv:Nat->cV)(x:dI)(h:cD base w B pv x)(i:Nat)(hi:i<4)(hl:(x.part i).book.length<1000000) :
  aB 78 #[.pointer (some ⟨B,0,none⟩),.int .i64 i] w (fun e w'=>∃v',e=.returned v'/\OwnRows w.heap.size 155 12 w' v' ((x.part i).book.map eo.cells)/\Fr aS w w'):=by
 have c:=(h.partAt hi).h_;have HR:=O (zO base w (pv i).k (pv i).kv (x.part i).book (h.part i hi).book hl);have M4:(i:Int)<4:=ab;have qA:¬(i:Int)<0:=ab;have Ny:¬(4:Int)<=(i:Int):=ab;have KP:(0:Int)<=(i:Int):=ab;clear h hl;go_enter func78,ntmps78;go_wp2_with fail
 refine HR.o.mono ?_;rintro e u⟨v',rfl,hg⟩;go_wp2;go_ret;exact⟨v',rfl,hg⟩
theorem EJ(base:Nat)(w:World)(B:Nat)(pv:Nat->cV)(x:dI)(h:cD base w B pv x)(i:Nat)(hi:i<4)(hl:(x.part i).dL.length<=1000000) :
  aB 73 #[.pointer (some ⟨B,0,none⟩),.int .i64 i] w (fun e w'=>∃v',e=.returned v'/\OwnRows w.heap.size 97 4 w' v' ((x.part i).dL.map ln)/\Fr aS w w'):=by
 have c:=(h.partAt hi).lT;have HR:=O (Qm (pv i).cv ((x.part i).dL.map ln) w (h.part i hi).dL.at (by rw[ai];omega));have M4:(i:Int)<4:=ab;have qA:¬(i:Int)<0:=ab;have Ny:¬(4:Int)<=(i:Int):=ab;have KP:(0:Int)<=(i:Int):=ab;obtain⟨a,k,hcv⟩:=(h.part i hi).dL.form;rw[ai]at hcv;rw[hcv]at c HR;clear h hl;go_enter func73,ntmps73;go_wp2_with fail
 refine HR.o.mono ?_;rintro e u⟨v',rfl,hg⟩;go_wp2;go_ret;exact⟨v',rfl,hg⟩
structure lV (x:dI):Prop where
 ok:xE x
 sm:Ea x
 path:Eb x
theorem lV.new:lV Bc:=⟨xE.new,Ea.new,Eb.new⟩
theorem lV.ku{x:dI}(h:lV x)(o:iY)(hu:o.user.size<=5000)(hp:o.pass.size<=5000)(ha:o.path.size<=5000):lV (ku x o).1 :=
 ⟨h.ok.ku o,h.sm.ku o hu hp,h.path.ku o ha⟩
def Fq(n:Int):iY:=⟨n,0,t_,t_,⟨#[47]⟩,⟨#[]⟩,⟨#[71,69,84]⟩,[],false,⟨#[]⟩,false,⟨#[66,97,115,105,99,32,114,101,97,108,109,61,114]⟩,⟨#[117]⟩,⟨#[112]⟩,⟨#[]⟩,0,false,0⟩
def Qe:dI:=(ku Bc (Fq 2)).1
def Qf:dI:=(ku Qe (Fq 3)).1
def aca:dI:=(ku Qf (Fq 1)).1
theorem aoG:(ku Bc (Fq 2)).2=⟨3,⟨#[]⟩,0⟩:=af
theorem aoH:(ku Qe (Fq 3)).2=⟨1,⟨#[]⟩,0⟩:=af
theorem aoI:(ku Qf (Fq 1)).2=⟨1,⟨#[66,97,115,105,99,32,100,84,112,119]⟩,0⟩:=af
theorem aoJ:(aca.part 0).bH.length=1:=af
theorem acb:lV Qe:=lV.new.ku _ ag ag ag
theorem aiU:lV Qf:=acb.ku _ ag ag ag
theorem uK{n:Nat}{x:Obj}(h:w.heap[n]?=some x)(hn:n≠B)(o:Nat)(u:Value):(w.setCell ⟨B,o,none⟩ u).heap[n]?=some x :=
 ((ae (one B) w).setCell (p:=⟨B,o,none⟩) (fun _=>rfl) u).keep h hn
theorem VP{o:Nat}(h:o+2<cs.length):(pn cs o v)[o]?=some (.pointer (some ⟨v.b,0,none⟩))/\(pn cs o v)[o+1]?=some (.pointer (some ⟨v.k,0,none⟩))/\(pn cs o v)[o+2]?=some v.cv:=by
 unfold pn;refine⟨?_,?_,?_⟩
 ·rw[List.getElem?_set_ne ab,List.getElem?_set_ne ab,List.getElem?_set_self ab]
 ·rw[List.getElem?_set_ne ab,List.getElem?_set_self bI]
 ·rw[List.getElem?_set_self bI]
theorem RO(cs:aX)(o:Nat)(v v':cV):pn (pn cs o v) o v'=pn cs o v':=by
 unfold pn;apply jg;intro i;simp only[List.getElem?_set,ed];by_cases h2:o+2=i
 ·simp[h2]
 by_cases h1:o+1=i
 ·simp[h1,h2]
 by_cases h0:o=i
 ·simp[h0]
 simp[h0,h1,h2]
theorem gT.after{w w1:World}{B off:Nat}{cs:aX}{v v1:cV}(ha:gT w B cs off v)(hb:w1.heap[B]?=some (.cells (pn cs off v1).toArray 86 (0,0))):gT w1 B (pn cs off v1) off v1:=by
 have hl:off+2<cs.length:=(List.getElem?_eq_some_iff.1 ha.c2).1;obtain⟨h0,h1,h2⟩:=VP (v:=v1) hl;exact⟨hb,h0,h1,h2⟩
theorem dk.seq{base:Nat}{w w1 w2:World}{B off:Nat}{cs:aX}{v v1:cV}{p2:dS}(f1:Fr (zV B v) w w1)(B6:∀k,v1.j_ k->v.j_ k\/w.heap.size<=k)(h2:dk base w1 B (pn cs off v1) off v1 p2 w2):dk base w B cs off v p2 w2:=by
 obtain⟨v2,i2,f2,aiY,aoL⟩:=h2;refine⟨v2,i2,f1.step f2 (fun k hk hp=>?_),fun k hk=>?_,?_⟩
 ·rcases hp with rfl|hp
  ·exact Or.inl rfl
  ·rcases B6 k hp with h|h
   ·exact Or.inr h
   ·omega
 ·rcases aiY k hk with h|h
  ·exact B6 k h
  ·exact Or.inr (aG f1.size h)
 ·rw[aoL,RO]
theorem dk.fresh{off:Nat}{p:dS}(h:eQ base w v p)(ha:gT w B cs off v)(oB:base<=B) :
  dk base w B cs off v yq (((((w.alloc (.cells #[.slice none 0 0,.slice none 0 0] 89)).alloc (.cells #[.slice none 0 0] 92)).setCell ⟨B,off,none⟩ (.pointer (some ⟨w.heap.size,0,none⟩))).setCell ⟨B,off+1,none⟩ (.pointer (some ⟨w.heap.size+1,0,none⟩))).setCell ⟨B,off+2,none⟩ (.slice none 0 0)):=by
 have hB:¬v.j_ B:=h.fi ha.eL ag;have uM:B<w.heap.size:=bj ha.eL;obtain⟨W,hW⟩:∃W,W=(w.alloc (.cells #[.slice none 0 0,.slice none 0 0] 89)).alloc (.cells #[.slice none 0 0] 92):=⟨_,rfl⟩;have hf:Fr aS w W:=by rw[hW];exact((ae aS w).alloc _).alloc _
 have xy:W.heap[w.heap.size]?=some (.cells #[.slice none 0 0,.slice none 0 0] 89 (0,0)):=by rw[hW];exact((ae aS _).alloc _).keep (aC _ _) id
 have ND:W.heap[w.heap.size+1]?=some (.cells #[.slice none 0 0] 92 (0,0)):=by
  have h:=aC (w.alloc (.cells #[.slice none 0 0,.slice none 0 0] 89)) (.cells #[.slice none 0 0] 92);rw[bO]at h;rw[hW];exact h
 rw[<-hW];have pY:=hf.keep ha.eL id;obtain⟨V,hV⟩:∃V,V=((W.setCell ⟨B,off,none⟩ (.pointer (some ⟨w.heap.size,0,none⟩))).setCell ⟨B,off+1,none⟩ (.pointer (some ⟨w.heap.size+1,0,none⟩))).setCell ⟨B,off+2,none⟩ (.slice none 0 0):=⟨_,rfl⟩;have Yd:Fr (one B) W V:=by
  rw[hV];exact(((ae (one B) W).setCell (p:=⟨B,off,none⟩) (fun _=>rfl) _).setCell (p:=⟨B,off+1,none⟩) (fun _=>rfl) _).setCell (p:=⟨B,off+2,none⟩) (fun _=>rfl) _
 have hbV:V.heap[B]?=some (.cells (pn cs off ⟨w.heap.size,.slice none 0 0,.slice none 0 0,w.heap.size+1,.slice none 0 0,.slice none 0 0⟩).toArray 86 (0,0)):=by
  have e1:=cg pY off (.pointer (some ⟨w.heap.size,0,none⟩));have e2:=cg e1 (off+1) (.pointer (some ⟨w.heap.size+1,0,none⟩));have e3:=cg e2 (off+2) (.slice none 0 0);rw[hV,e3];unfold pn;simp
 rw[<-hV]
 refine⟨⟨w.heap.size,.slice none 0 0,.slice none 0 0,w.heap.size+1,.slice none 0 0,.slice none 0 0⟩,⟨⟨by show base<=w.heap.size;omega,Yd.keep xy (fun e=>by have e':w.heap.size=B:=e;omega),⟨[],dy _ _ _ _,.nil⟩,⟨[],dy _ _ _ _,.nil⟩⟩,⟨by show base<=w.heap.size+1;omega,Yd.keep ND (fun e=>by have e':w.heap.size+1=B:=e;omega),dy _ _ _ _⟩,dy _ _ _ _⟩,fV (S:=zV B v) (hf.mono (fun _ _ h=>absurd h id)) Yd (fun _ _ e=>Or.inl e),?_,hbV⟩
 rintro k(hk|hk|hk)
 ·rcases hk with hk|hk|hk
  ·have e:k=w.heap.size:=hk;exact Or.inr ab
  ·simp[own,Value.ownBlock]at hk
  ·simp[own,Value.ownBlock]at hk
 ·rcases hk with hk|hk
  ·have e:k=w.heap.size+1:=hk;exact Or.inr ab
  ·simp[own,Value.ownBlock]at hk
 ·simp[own,Value.ownBlock]at hk
def eZ(t:TypeId):Prop:=t≠89/\t≠114/\t≠133/\t≠92/\t≠155/\t≠97
theorem eK{w':World}{p:dS}{n:Nat}{c:bS}(h:eQ base w v p)(hf:Fr (zV B v) w w')(hn:w.heap[n]?=some (.cells c t (0,0)))(ht:eZ t)(hB:n≠B):w'.heap[n]?=some (.cells c t (0,0)) :=
 hf.keep hn (fun e=>by
  rcases e with e|e
  ·exact hB e
  ·exact h.fi hn ht e)
theorem jl:eZ 41:=by unfold eZ;decide
theorem pQ:eZ 32:=by unfold eZ;decide
theorem dM:eZ 30:=by unfold eZ;decide
theorem GI:eZ 37:=by unfold eZ;decide
theorem Bf:eZ 112:=by unfold eZ;decide
abbrev ix := @gT.after
abbrev gL := @dk.seq
structure wB where
 does:Nat
 op:iY
 fails:Nat
 mY:Int
 seen:dI
 num:Nat->Nat->Int
 jm:kI
def apy:iY:=⟨0,0,⟨false,.empty,0⟩,⟨false,.empty,0⟩,.empty,.empty,.empty,[],false,.empty,false,.empty,.empty,.empty,.empty,0,false,0⟩
def fX:wB:=⟨0,apy,0,0,Bc,fun _ _=>0,rep 0⟩
structure WB where
 tab:Nat
 op:iY
 jm:kI
 mY:Int
 fin:Int
structure iy where
 w:dI
 num:Nat->Nat->Int
 tab:Nat->wB
 steps:Int
 gz:List WB
def xH:iy:=⟨Bc,fun _ _=>0,fun _=>fX,0,[]⟩
def iy.put(t:iy)(n:Nat)(x:wB):iy:={t with tab:=fun i=>if i=n then x else t.tab i}
def mZ(o:iY):List (Nat×Nat):=[0,1,2,3].filterMap fun i=>if(dp o).1.testBit i then some (if i=3 then 0 else o.part.toNat,i)else none
def GY(o:iY)(f:Nat->Nat->Int):List Int:=(mZ o).map fun c=>f c.1 c.2
def En(o:iY)(f:Nat->Nat->Int):Nat->Nat->Int:=fun p i=>if(p,i)∈mZ o then f p i+1 else f p i
def lW(t:iy)(n:Nat)(r:kI):iy :=
 {t with gz:=t.gz++[⟨n,(t.tab n).op,r,(t.tab n).mY,t.steps⟩],tab:=fun i=>if i=n then fX else t.tab i}
def jt(t:iy)(n:Nat):iy×(kI×Bool) :=
 if GY (t.tab n).op t.num=GY (t.tab n).op (t.tab n).num then
  (lW (if(dp (t.tab n).op).2 then{t with w:=kP t.w (t.tab n).seen (t.tab n).op.part (dp (t.tab n).op).1,num:=En (t.tab n).op t.num}else t) n (t.tab n).jm,(t.tab n).jm,true)
 else if(t.tab n).fails+1<=3 then(t.put n {t.tab n with fails:=(t.tab n).fails+1,does:=1},rep 0,false)
 else(lW (t.put n {t.tab n with fails:=(t.tab n).fails+1}) n (rep 6),rep 6,true)
def stepT(t:iy)(n:Nat):iy×(kI×Bool) :=
 if(t.tab n).does=1 then({(t.put n {t.tab n with seen:=t.w,num:=t.num,does:=2})with steps:=t.steps+1},rep 0,false)
 else if(t.tab n).does=2 then({(t.put n {t.tab n with jm:=(ku (t.tab n).seen (t.tab n).op).2,seen:=(ku (t.tab n).seen (t.tab n).op).1,does:=3})with steps:=t.steps+1},rep 0,false)
 else jt {t with steps:=t.steps+1} n
def yy(n:Int):Bool:=decide (0<=n)&&decide (n<6)
def jH(t:iy)(n:Int):iy×(kI×Bool×Nat) :=
 if yy n then
  if(t.tab n.toNat).does=0 then(t,rep 0,false,8)else((stepT t n.toNat).1,(stepT t n.toNat).2.1,(stepT t n.toNat).2.2,0)
 else(t,rep 0,false,2)
def wC(t:iy)(n:Int)(o:iY):iy×Nat :=
 if yy n then
  if(t.tab n.toNat).does=0 then({(t.put n.toNat {fX with does:=1,op:=o,mY:=t.steps+1})with steps:=t.steps+1},0)else(t,6)
 else(t,2)
def sT(t:iy)(n:Int):iy×Nat :=
 if yy n then
  if(t.tab n.toNat).does=0 then(t,8)else({(t.put n.toNat fX)with steps:=t.steps+1},0)
 else(t,2)
def Qn(t:iy)(n:Int):Nat:=if yy n then(t.tab n.toNat).does else 0
structure MvL where
 kind:Int
 tab:Int
 op:iY
def Ab(t:iy)(m:MvL):iy :=
 if m.kind=1 then(wC t m.tab m.op).1 else if m.kind=2 then(sT t m.tab).1 else if m.kind=0 then(jH t m.tab).1 else t
def yz(l:List MvL):iy:=l.foldl Ab xH
theorem WC{p i:Nat}:(p,i)∈mZ o↔i<4/\(dp o).1.testBit i=true/\p=(if i=3 then 0 else o.part.toNat):=by
 unfold mZ;simp only[List.mem_filterMap,bB,cz,dX];constructor
 ·rintro⟨j,hj,h⟩;split at h
  ·rename_i hb;simp only[ez,iT]at h;obtain⟨h1,rfl⟩:=h;exact⟨ab,hb,h1.symm⟩
  ·cases h
 ·rintro⟨h1,h2,h3⟩;exact⟨i,ab,by rw[az h2,h3]⟩
theorem VH.acv{n:Nat}{er:Value}(h:VH n er w):∃t x,er=.iface t x:=by
 rcases h with rfl|⟨g,p,rfl,_⟩
 ·exact⟨_,_,rfl⟩
 ·exact⟨_,_,rfl⟩
theorem L0(base:Nat)(w:World)(B off:Nat)(cs:aX)(v:cV)(p:dS)(o:jQ)(hs:List ig)(now:Int)(h:eQ base w v p)(ha:gT w B cs off v)(oB:base<=B)(hf:gI w o hs)(hk:nr p)(ht:xz w)(n0:0<=now)(n1:now<=1099511627776) :
  aB 34 #[.pointer (some ⟨B,off,none⟩),.agg o.cells.toArray,.int .i64 now] w (eI base w B cs off v (gY p now (o.dR hs))):=by
 have uM:B<w.heap.size:=bj ha.eL;have GP:¬v.j_ B:=h.fi ha.eL ag;obtain⟨ah,ch,gH⟩:=hf.gZ;have Sc:=hk.tP.2.2.1;have Sr:=hf.text;obtain⟨w2,eE⟩:∃w2,w2=(w.alloc (.cells o.cells.toArray 41)).alloc (.cells bT 30):=⟨_,rfl⟩;have dB:Fr aS w w2:=by rw[eE];exact((ae aS w).alloc _).alloc _
 have k1:w2.heap[w.heap.size]?=some (.cells o.cells.toArray 41 (0,0)):=by rw[eE];exact((ae aS _).alloc _).keep (aC _ _) id
 have k2:w2.heap[w.heap.size+1]?=some (.cells bT 30 (0,0)):=by
  have h:=aC (w.alloc (.cells o.cells.toArray 41)) (.cells bT 30);rw[bO]at h;rw[eE];exact h
 have Wg:=O (show∀U,Fr aS w2 U->U.heap[w.heap.size]?=some (.cells o.cells.toArray 41 (0,0))from fun U hU=>hU.keep k1 id);have CK:=O GP;have HH:=O h;have HA:=O ha;have HF:=O hf;have lD:=O gH;have HT:=O ht;have f_:=O dB;have qO:=O k2;have ph:=O (show base<=w.heap.size from ab);have o7:=O uM;have FL:=O (OA o.text w2 Sr);have RV:=O eE
 obtain⟨a0,a1,a2,a3,a4,a5,a6,a7,a8,a9,jI,jJ,a12,jG,jK,jo,jV,jW,jX,ka,a20,a21⟩:=ep k1 gH;rw[eE]at a0 a1 a2 a3 a4 a5 a6 a7 a8 a9 jI jJ a12 jG jK jo jV jW jX ka a20 a21;rw[d_ gH]at eE a0 a1 a2 a3 a4 a5 a6 a7 a8 a9 jI jJ a12 jG jK jo jV jW jX ka a20 a21 ⊢;unfold bT at eE a0 a1 a2 a3 a4 a5 a6 a7 a8 a9 jI jJ a12 jG jK jo jV jW jX ka a20 a21;have nI:=O eE;clear eE gH dB k1 k2 h ha hf GP hk ht Sr
 go_enter func34,ntmps34;go_wp2_with fail
 rw[<-nI.o];refine FL.o.mono ?_;rintro e u1 Gj;clear a0 a1 a2 a3 a4 a5 a6 a7 a8 a9 jI jJ a12 jG jK jo jV jW jX ka a20 a21;obtain⟨ui,Gj⟩:=Gj;have IG:=O ui;cases zC:mO o.text.data.toList with
 |error n =>
  rw[zC]at Gj;obtain⟨er,rfl,hen⟩:=Gj;obtain⟨et,ev,rfl⟩:=hen.acv;have HR:=O (show gY p now (o.dR hs)=(p,rep 7)by unfold gY;rw[show(o.dR hs).text=o.text from rfl,zC]);have Bj:=O (ui.keep qO.o id);clear zC hen ui
  go_wp2_with (first|((with_reducible refine cW 30 ?_);refine aF rfl 30 (.tmp 6) (.tmp 18) rfl (w.heap.size+1) #[.int .i64 7,.string ⟨#[]⟩,.int .i64 0] rfl rfl _ bT Bj.o (bf _ rfl) rfl bW ?_)|fail)
  refine aU (bu bC _ _ (w.heap.size+1) 30 #[.int .i64 7,.string ⟨#[]⟩,.int .i64 0] (0,0) _ rfl (aY u1 (w.heap.size+1) _ _ _ _ Bj.o) underlying30 rfl (bf _ rfl)) rfl ?_;unfold eI;rw[HR.o];exact⟨rfl,dz (mo HH.o HA.o (f_.o.trans IG.o)) ph.o o7.o (bV _) Bj.o eN ag _⟩
 |ok l =>
  rw[zC]at Gj;obtain⟨v1,rfl,AO⟩:=Gj;have rO:=AO.form;rw[ai]at rO;obtain⟨al,cl,rfl⟩:=rO;have pj:=IW zC;have hh1:=bh HF.o.ey (f_.o.trans ui);have GR:=O (Sl o.aJ hs _ l now u1 hh1 AO.at pj HF.o.aJ (HT.o.fr (f_.o.trans ui)) HF.o.VN.1 HF.o.VN.2 HF.o.cX n0 n1);rw[zW lD.o]at GR;obtain⟨a0,a1,a2,a3,a4,a5,a6,a7,a8,a9,jI,jJ,a12,jG,jK,jo,jV,jW,jX,ka,a20,a21⟩:=ep (Wg.o u1 ui) lD.o;have HFL:=O zC
  clear zC ui AO pj hh1;go_wp2_with fail
  refine GR.o.mono ?_;rintro e u2⟨nu,C_⟩;clear a0 a1 a2 a3 a4 a5 a6 a7 a8 a9 jI jJ a12 jG jK jo jV jW jX ka a20 a21 GR;have tI:=O (IG.o.trans nu);have rK:=O (f_.o.trans tI.o);cases hg:uw (o.aJ.dR hs) (xf o.aJ.cX).data.toList l now with
  |error n =>
   rw[hg]at C_;obtain rfl:=C_;have HR:=O (show gY p now (o.dR hs)=({p with book:=p.book.filter (fun q=>!q.uV (o.aJ.dR hs))},rep 2)by
    unfold gY;rw[show(o.dR hs).text=o.text from rfl,HFL.o];simp only;rw[show uw (o.dR hs).aJ (FO (o.dR hs).cX.dR) l now=.error n from hg];rfl)
   have G3:=O (show∀U,Fr (iC v.k v.kv) u2 U->(U.cell? ⟨B,off+1,none⟩=some (.pointer (some ⟨v.k,0,none⟩))/\U.cell? ⟨w.heap.size,1,none⟩=some (.int .i64 o.aJ.part)/\U.cell? ⟨w.heap.size,2,none⟩=some (.bool o.aJ.cX.aE)/\U.cell? ⟨w.heap.size,3,none⟩=some (.string o.aJ.cX.host)/\U.cell? ⟨w.heap.size,4,none⟩=some (.int .i64 o.aJ.cX.port)/\U.cell? ⟨w.heap.size,5,none⟩=some (.bool o.aJ.o.aE)/\U.cell? ⟨w.heap.size,6,none⟩=some (.string o.aJ.o.host)/\U.cell? ⟨w.heap.size,7,none⟩=some (.int .i64 o.aJ.o.port)/\U.cell? ⟨w.heap.size,8,none⟩=some (.string o.aJ.path)/\U.cell? ⟨w.heap.size,9,none⟩=some (.string o.aJ.query)/\U.cell? ⟨w.heap.size,10,none⟩=some (.string o.aJ.method)/\U.cell? ⟨w.heap.size,11,none⟩=some (.slice ah hs.length ch)/\U.cell? ⟨w.heap.size,12,none⟩=some (.bool o.aJ.fN)/\U.cell? ⟨w.heap.size,13,none⟩=some (.string o.aJ.body))from fun U hU=>by
    have j1:=(HA.o.dm rK.o).fr hU (fun hb=>CK.o (Or.inr (Or.inl hb)));have j2:=hU.keep (Wg.o u2 tI.o) (fun hb=>by
     have h3:=(HH.o.dm rK.o).book.iw hb;obtain⟨c,t,e,hk⟩:=h3;rw[Wg.o u2 tI.o]at e;cases e;revert hk;decide)
    obtain⟨a0,a1,a2,a3,a4,a5,a6,a7,a8,a9,jI,jJ,a12,jG,jK,jo,jV,jW,jX,ka,a20,a21⟩:=ep j2 lD.o;exact⟨j1.h_,a1,a2,a3,a4,a5,a6,a7,a8,a9,jI,jJ,a12,jG⟩)
   have HFG:=O (show∀U,Fr aS u2 U->aB 66 #[.pointer (some ⟨v.k,0,none⟩),.agg #[.int .i64 o.aJ.part,.bool o.aJ.cX.aE,.string o.aJ.cX.host,.int .i64 o.aJ.cX.port,.bool o.aJ.o.aE,.string o.aJ.o.host,.int .i64 o.aJ.o.port,.string o.aJ.path,.string o.aJ.query,.string o.aJ.method,.slice ah hs.length ch,.bool o.aJ.fN,.string o.aJ.body]] U (ua base U v.k v.kv p.book (eo.uV (o.aJ.dR hs)))from fun U hU=>by
    have:=LA base U v.k v.kv p.book o.aJ hs ((HH.o.dm rK.o).dm hU).book ab;rw[zW lD.o]at this;exact this)
   clear hg;go_wp2_with fail
   go_region_held3 (fun U=>Fr (iC v.k v.kv) u2 U/\U.cell? ⟨B,off+1,none⟩=some (.pointer (some ⟨v.k,0,none⟩))/\U.cell? ⟨w.heap.size,1,none⟩=some (.int .i64 o.aJ.part)/\U.cell? ⟨w.heap.size,2,none⟩=some (.bool o.aJ.cX.aE)/\U.cell? ⟨w.heap.size,3,none⟩=some (.string o.aJ.cX.host)/\U.cell? ⟨w.heap.size,4,none⟩=some (.int .i64 o.aJ.cX.port)/\U.cell? ⟨w.heap.size,5,none⟩=some (.bool o.aJ.o.aE)/\U.cell? ⟨w.heap.size,6,none⟩=some (.string o.aJ.o.host)/\U.cell? ⟨w.heap.size,7,none⟩=some (.int .i64 o.aJ.o.port)/\U.cell? ⟨w.heap.size,8,none⟩=some (.string o.aJ.path)/\U.cell? ⟨w.heap.size,9,none⟩=some (.string o.aJ.query)/\U.cell? ⟨w.heap.size,10,none⟩=some (.string o.aJ.method)/\U.cell? ⟨w.heap.size,11,none⟩=some (.slice ah hs.length ch)/\U.cell? ⟨w.heap.size,12,none⟩=some (.bool o.aJ.fN)/\U.cell? ⟨w.heap.size,13,none⟩=some (.string o.aJ.body)) ((refine(fun hU=>⟨hU,G3.o _ hU⟩) ?_;first|exact aA (ae _ _)|assumption))
    ((first
     |(go_at_call 66;refine(HFG.o _ (aA (ae _ _))).mono ?_;rintro e u3 ⟨rfl,tu⟩;have wm:Fr (iC v.k v.kv) u2 u3:=(aA (ae _ _)).trans (by obtain⟨_,_,h,_⟩:=tu;exact h))))
   have HPP:=O (oX ((HH.o.dm rK.o).dm (aA (ae aS u2))) ((HA.o.dm rK.o).dm (aA (ae aS u2))) CK.o tu);have Bj:=O (wm.keep (tI.o.keep qO.o id) (fun hb=>by
    obtain⟨c,t,e,hk⟩:=(HH.o.dm rK.o).book.iw hb;rw[tI.o.keep qO.o id]at e;cases e;revert hk;decide))
   clear tu wm G3 HFG;go_wp2_with (first|((with_reducible refine cW 30 ?_);refine aF rfl 30 (.tmp 6) (.tmp 36) rfl (w.heap.size+1) #[.int .i64 2,.string ⟨#[]⟩,.int .i64 0] rfl rfl _ bT Bj.o (bf _ rfl) rfl bW ?_)|fail)
   refine aU (bu bC _ _ (w.heap.size+1) 30 #[.int .i64 2,.string ⟨#[]⟩,.int .i64 0] (0,0) _ rfl (aY u3 (w.heap.size+1) _ _ _ _ Bj.o) underlying30 rfl (bf _ rfl)) rfl ?_;unfold eI;rw[HR.o];exact⟨rfl,dz ((HPP.o.after (aA (ae aS u2))).after rK.o) ph.o o7.o (bV _) Bj.o eN ag _⟩
  |ok m =>
   rw[hg]at C_;obtain⟨v2,rfl,qX⟩:=C_;have HR:=O (show gY p now (o.dR hs)=({p with book:=uu p.book m now},rep 1)by
    unfold gY;rw[show(o.dR hs).text=o.text from rfl,HFL.o];simp only;rw[show uw (o.dR hs).aJ (FO (o.dR hs).cX.dR) l now=.ok m from hg])
   have sN:=Sq hg;have hbo:=(HH.o.dm rK.o).book;have aj7:=qX.form;rw[ai]at aj7;obtain⟨am,cm,rfl⟩:=aj7;have HP:=O (Ll base u2 v.k v.kv p.book _ m now hbo qX.at (fun _ k hk hb=>by
    have h1:=qX.block k hk;have h2:=HH.o.jr (Or.inr (Or.inl hb));have h3:=f_.o.size;have h4:=IG.o.size;omega) ab)
   have c1:=(HA.o.dm rK.o).h_;clear hg sN hbo qX;go_wp2_with fail
   refine HP.o.mono ?_;rintro e u3⟨rfl,tu⟩;have HPP:=O (oX (HH.o.dm rK.o) (HA.o.dm rK.o) CK.o tu);have wm:Fr (iC v.k v.kv) u2 u3:=by obtain⟨_,_,h,_⟩:=tu;exact h
   have Bj:=O (wm.keep (tI.o.keep qO.o id) (fun hb=>by
    obtain⟨c,t,e,hk⟩:=(HH.o.dm rK.o).book.iw hb;rw[tI.o.keep qO.o id]at e;cases e;revert hk;decide))
   clear tu wm HP c1;go_wp2_with (first|((with_reducible refine cW 30 ?_);refine aF rfl 30 (.tmp 6) (.tmp 44) rfl (w.heap.size+1) #[.int .i64 1,.string ⟨#[]⟩,.int .i64 0] rfl rfl _ bT Bj.o (bf _ rfl) rfl bW ?_)|fail)
   refine aU (bu bC _ _ (w.heap.size+1) 30 #[.int .i64 1,.string ⟨#[]⟩,.int .i64 0] (0,0) _ rfl (aY u3 (w.heap.size+1) _ _ _ _ Bj.o) underlying30 rfl (bf _ rfl)) rfl ?_;unfold eI;rw[HR.o];exact⟨rfl,dz (HPP.o.after rK.o) ph.o o7.o (bV _) Bj.o eN ag _⟩
theorem dk.dL{base:Nat}{w1 w2:World}{B off:Nat}{cs:aX}{v:cV}{p:dS}{Yl:Value}{l:List (gA×Int)}(h:eQ base w1 v p)(ha:gT w1 B cs off v)(oB:base<=B)(ho:OwnRows base 97 4 w2 Yl (l.map ln))(hf:Fr (own v.cv) w1 w2)(cR:∀k,own Yl k->own v.cv k\/w1.heap.size<=k) :
  dk base w1 B cs off v {p with dL:=l} (w2.setCell ⟨B,off+2,none⟩ Yl):=by
 have hB:¬v.j_ B:=h.fi ha.eL ag;have pY:=hf.keep ha.eL (fun hb=>hB (Or.inr (Or.inr hb)));have mS:rY base w1 (own v.cv):=fun k hk hl=>h.off k (Or.inr (Or.inr hk)) hl;have kH:Fr (one B) w2 (w2.setCell ⟨B,off+2,none⟩ Yl):=(ae (one B) w2).setCell (p:=⟨B,off+2,none⟩) (fun _=>rfl) _;have ap8:rY base w2 (one B):=by
  rintro k rfl _;exact⟨oB,fun c f e=>by rw[pY]at e;cases e⟩
 have uM:B<w1.heap.size:=bj ha.eL;have p2:dE base w2 v.b v.gv v.wv p.bH p.waits:=h.oz.fr hf mS (fun hb=>h.wY (Or.inl rfl) hb) (fun k hk hb=>h.wY (Or.inr (Or.inl hk)) hb) (fun k hk hb=>h.wY (Or.inr (Or.inr hk)) hb);have p3:eP base w2 v.k v.kv p.book:=h.book.fr hf (fun k hk hb=>h.GG hk hb);refine⟨⟨v.b,v.gv,v.wv,v.k,v.kv,Yl⟩,⟨p2.fr kH ap8 ?_ ?_ ?_,p3.fr kH ?_,ho.fr kH ?_⟩,?_,?_,?_⟩
 ·intro e;exact hB (Or.inl (by rw[<-show v.b=B from e];exact Or.inl rfl))
 ·intro k hk e;exact hB (Or.inl (by rw[<-show k=B from e];exact Or.inr (Or.inl hk)))
 ·intro k hk e;exact hB (Or.inl (by rw[<-show k=B from e];exact Or.inr (Or.inr hk)))
 ·intro k hk e;exact hB (Or.inr (Or.inl (by rw[<-show k=B from e];exact hk)))
 ·intro k hk e;have e':k=B:=e;subst e';rcases cR k hk with h1|h1
  ·exact hB (Or.inr (Or.inr h1))
  ·omega
 ·exact(show Fr (zV B v) w1 w2 from hf.mono (fun k _ hk=>Or.inr (Or.inr (Or.inr hk)))).setCell (p:=⟨B,off+2,none⟩) (fun _=>Or.inl rfl) _
 ·rintro k(hk|hk|hk)
  ·exact Or.inl (Or.inl hk)
  ·exact Or.inl (Or.inr (Or.inl hk))
  ·rcases cR k hk with h1|h1
   ·exact Or.inl (Or.inr (Or.inr h1))
   ·exact Or.inr h1
 ·have e:=cg pY (off+2) Yl;rw[e];have e2:pn cs off ⟨v.b,v.gv,v.wv,v.k,v.kv,Yl⟩=cs.set (off+2) Yl:=by
   have:=w_ ha.c0 ha.c1 ha.c2;unfold pn at this ⊢;simp only;have h3:(cs.set off (.pointer (some ⟨v.b,0,none⟩))).set (off+1) (.pointer (some ⟨v.k,0,none⟩))=cs:=by
    apply jg;intro i;by_cases h1:i=off+1
    ·subst h1;rw[List.getElem?_set_self (by simp;exact(List.getElem?_eq_some_iff.1 ha.c1).1),ha.c1]
    rw[List.getElem?_set_ne (kZ h1)];by_cases h0:i=off
    ·subst h0;rw[List.getElem?_set_self (List.getElem?_eq_some_iff.1 ha.c0).1,ha.c0]
    rw[List.getElem?_set_ne (kZ h0)]
   rw[h3]
  rw[e2];simp
theorem IY(o:gA)(l:List (gA×Int)):(l.map ln).filter (fun x=>!P9 o x)=(Lr o l).map ln:=by
 unfold Lr;rw[List.filter_map];rfl
theorem G7(c:gA×Int):∀u∈ln c,u.oneCell'=true:=by
 intro u hu;unfold ln at hu;simp only[bB,cz,dX]at hu;rcases hu with rfl|rfl|rfl|rfl<;>rfl
theorem OE(c:gA×Int)(o:gA)(bo:Nat)(w:World)(ho:w.heap[bo]?=some (.cells #[.bool o.aE,.string o.host,.int .i64 o.port] 32 (0,0))) :
  aB 142 #[.agg (ln c).toArray,.pointer (some ⟨bo,0,none⟩)] w fun e w'=>e=.returned (.bool (P9 o (ln c)))/\Fr aS w w':=by
 have hC:=O (show P9 o (ln c)=c.1.lj o from rfl);have heq:=jA c.1 o;rw[hC.o];unfold ln;have gS:Fr aS w _:=(ae aS w).alloc (.cells #[.bool c.1.aE,.string c.1.host,.int .i64 c.1.port,.int .i64 c.2] 97);have qX:=O (gS.keep ho id);clear hC ho;go_enter func142,ntmps142;go_wp2_with (first|((with_reducible refine di 6 ?_);refine aH rfl 32 (.tmp 1) rfl bo rfl _ _ (0,0) _ qX.o underlying32 rfl af ?_)|fail)
 go_ret;exact⟨rfl,gS⟩
theorem Mc(base:Nat)(w:World)(B off:Nat)(cs:aX)(v:cV)(p:dS)(o:gA)(h:eQ base w v p)(ha:gT w B cs off v)(oB:base<=B) :
  aB 68 #[.pointer (some ⟨B,off,none⟩),.agg o.cells.toArray] w fun e w'=>e=.returned (.tuple #[])/\dk base w B cs off v {p with dL:=Lr o p.dL} w':=by
 unfold gA.cells;have pd:Fr aS w (w.alloc (.cells #[.bool o.aE,.string o.host,.int .i64 o.port] 32)):=(ae aS w).alloc _;have hbo:=aC w (.cells #[.bool o.aE,.string o.host,.int .i64 o.port] 32);have h1:=h.dm pd;have ha1:=ha.dm pd;have uM:B<w.heap.size:=bj ha.eL;have xr:∀k,own v.cv k->k<w.heap.size:=fun k hk=>h.jr (Or.inr (Or.inr hk))
 have hd:=Fv base 142 #[.pointer (some ⟨w.heap.size,0,none⟩)] (P9 o) v.cv (p.dL.map ln) _ call142 (fun x hx u hu=>by
  obtain⟨c,_,rfl⟩:=b_.1 hx;exact OE c o w.heap.size u (hu.keep hbo (fun hk=>by have:=xr _ hk;omega))) h1.dL
 rw[IY,ai]at hd;have c2:=ha1.lT;have f2:=ha1.free (off+2);obtain⟨av,cv,hcv⟩:=h1.dL.form;rw[ai]at hcv;rw[hcv]at c2 hd;have xg:=O hcv;have HD:=O hd;have H1:=O h1;have HA1:=O ha1;have Ca:=O pd;have GP:¬v.j_ B:=h.fi ha.eL ag;have CK:=O GP;clear h ha hbo h1 ha1 hd hcv pd GP f2 xr;go_enter func68,ntmps68;go_wp2_with fail
 refine HD.o.mono ?_;rintro e w2⟨a2,c2',rfl,qX,dB,fC⟩;rw[<-xg.o]at dB fC;have HP:=O (dk.dL H1.o HA1.o oB qX dB (fun k hk=>Or.inl (by rw[<-fC];exact hk)));have WO:=dB.keep HA1.o.eL (fun hb=>CK.o (Or.inr (Or.inr hb)));have d2:w2.cell? ⟨B,off+2,none⟩=some (.slice av p.dL.length cv):=by
  have e:=HA1.o.c2;rw[xg.o]at e;simp[World.cell?,WO,e]
 have e2:w2.frozen? ⟨B,off+2,none⟩=false:=by simp[World.frozen?,WO]
 clear HD c2 qX dB fC WO;go_wp2;go_end0;exact⟨rfl,HP.o.after Ca.o⟩
