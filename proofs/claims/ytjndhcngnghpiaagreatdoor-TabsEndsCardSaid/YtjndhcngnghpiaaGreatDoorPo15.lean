/- Lemmas for the law's walk. -/
import Derived.Test.YtjndhcngnghpiaaGreatDoorPo14
import Derived.Test.YtjndhcngnghpiaaGreatDoorPo24
import Derived.Great.BuildSlice
set_option maxRecDepth 100000
set_option maxHeartbeats 16000000
set_option linter.unusedSimpArgs false
namespace Go.Proofs.YtjndhcngnghpiaaGreatDoor
open Go.Proofs.Tryz
open Go.RowKit
variable {M fuel base ch B:Nat} {ps:List jh} {l:List mZ} {gs:List (aU bE)} {cs:aX} {v:dm} {p q:eB} {w:World} {hs:List gU} {n:Int} {t:TypeId} {ah:eZ} {o:kn}
def FF(a:fY bE):Prop:=a.aP.size<=3000/\a.bz.size<=3000/\a.cC.size<=3000/\a.dom.length<=3001
def Um(g:aU bE):Prop:=FF g.a/\g.user.size<=5000/\g.pass.size<=5000
theorem G_(h:wG M ps){n v:Bs}(e:j5 ps n=some v):v.length<=M:=by
 unfold j5 at e;cases hf:ps.find? (fun p=>dG p.1 n)with
 |none=>rw[hf]at e;cases e
 |some p =>
  rw[hf]at e;obtain rfl:p.2=v:=by simpa using e
  exact(h p (List.mem_of_find?_eq_some hf)).2
theorem OT(h:wG M ps)(n:Bs):((j5 ps n).getD []).length<=M:=by
 cases e:j5 ps n with
 |none=>exact aS _
 |some v=>exact G_ h e
theorem Bh(c:UInt8):∀l:Bs,(dU c l).length<=l.length+1
 |[]=>by simp[dU]
 |x :: l=>by
  have ih:=Bh c l;by_cases hx:x=c
  ·subst hx;rw[qZ];simp;exact ih
  ·cases e:dU c l with
   |nil=>exact absurd e (wk c l)
   |cons p ps =>
    rw[nU hx e];rw[e]at ih;simp at ih ⊢; omega
theorem Qu(d:Bs):(Gp d).length<=d.length+1:=by
 unfold Gp;rw[aj];exact aE (bR _ _) (Bh 32 d)
theorem Qv{x:mZ}{a:fY bE}(hx:x.Le 3000)(h:mR x=some a):FF a:=by
 have hp:=hx.yH;unfold mR at h;split at h
 ·cases h
 rename_i aP hr;have h1:=G_ hp hr;split at h
 ·cases h;exact⟨h1,aS _,aS _,aS _⟩
 split at h
 ·cases h
 split at h
 ·cases h
 split at h
 ·cases h
 rename_i bz hn;have h2:=G_ hp hn;split at h
 ·cases h
 ·cases h;refine⟨h1,h2,OT hp lS,?_⟩;show((Gp ((j5 x.params qA).getD [])).map bA).length<=3001;rw[aj];have:=Qu ((j5 x.params qA).getD []);have:=OT hp qA;omega
theorem Un:FF N5:=⟨aS _,aS _,aS _,aS _⟩
theorem Uo(h:∀x∈l,x.Le 3000):FF (iW l):=by
 unfold iW;rcases OQ l N5 with e|⟨x,hx,e⟩
 ·rw[e];exact Un
 ·exact Qv (h x hx) e
theorem OU{r:Bs}(h:mg r=.ok l):FF (iW l):=by
 refine Uo (fun x hx=>?_);have h1:=Bf h x hx;have h2:=Bg h;exact⟨aE h1.scheme h2,aE h1.token h2,fun p hp=>⟨aE (h1.yH p hp).1 h2,aE (h1.yH p hp).2 h2⟩⟩
theorem Kg{g x:aU bE}(h:x∈uW gs g):x∈gs\/x=g:=by
 unfold uW at h;have h:=ey h;rcases bP.1 h with h|h
 ·exact Or.inl (eW.1 h).1
 ·exact Or.inr (cV.1 h)
theorem Kh{ws:List (bJ bE)}{m x:bJ bE}(h:x∈zj ws m):x∈ws\/x=m:=by
 unfold zj at h;have h:=ey h;rcases bP.1 h with h|h
 ·exact Or.inl ((qV _ _ _).subset h)
 ·exact Or.inr (cV.1 h)
theorem Ar{o:gy}{proxy:Bool}:∀ {ws:List (bJ bE)} {g:bJ bE},(lV o proxy ws).2=some g->g∈ws
 |[],_,h=>by cases h
 |x :: l,g,h=>by
  rw[lV]at h;cases hx:Al o proxy x
  ·rw[hx]at h;simp only[cG,eR]at h;exact bO _ (Ar h)
  ·rw[hx]at h;simp only[dY]at h;cases h;exact cR
theorem Ki{o:gy}{proxy:Bool}{path:ai}{P:aU bE->Prop}(hP:∀g,P g->P g.used)(h:∀x∈gs,P x) :
  (∀x∈(uX gs o proxy path).1,P x)/\∀g,(uX gs o proxy path).2=.ok g->P g:=by
 unfold uX;split
 ·split
  ·rename_i g hg;have hl:∀x∈gs.take (tD gs o proxy path).toNat++gs.drop ((tD gs o proxy path).toNat+1),P x:=fun x hx=>by
    rcases bP.1 hx with hx|hx
    ·exact h x (ew hx)
    ·exact h x (ey hx)
   have hg':P g.used:=hP g (h g (cA hg));simp only;split
   ·exact⟨hl,fun g h=>by cases h⟩
   ·refine⟨fun x hx=>?_,fun g h=>by cases h;exact hg'⟩;rcases bP.1 hx with hx|hx
    ·exact hl x hx
    ·rw[cV]at hx;rw[hx];exact hg'
  ·exact⟨h,fun g h=>by cases h⟩
 ·exact⟨h,fun g h=>by cases h⟩
structure rF (p:eB):Prop where
 bW:∀g∈p.bW,Um g
 waits:∀x∈p.waits,FF x.a
theorem rF.no:rF x_:=⟨fun _ h=>(by cases h),fun _ h=>(by cases h)⟩
theorem rF.wF{p:eB}(h:rF p)(now:Int)(o:kn)(hu:o.user.size<=5000)(hp:o.pass.size<=5000):rF (wF p now o).1:=by
 obtain⟨hg,hw⟩:=h;unfold Go.Proofs.YtjndhcngnghpiaaGreatDoor.wF;by_cases h1:o.what=1
 ·rw[aA h1];have hU:=(Ki (gs:=p.bW) (o:=o.o) (proxy:=o.proxy) (path:=o.path) (P:=Um) (fun _ h=>h) hg).1;unfold lu;split
  ·rename_i gs e he;rw[he]at hU;exact⟨hU,hw⟩
  ·rename_i gs g he;rw[he]at hU;split
   ·exact⟨fun x hx=>hU x (eW.1 hx).1,hw⟩
   ·exact⟨hU,hw⟩
 rw[ar h1];by_cases h2:o.what=2
 ·rw[aA h2];unfold jo;split
  ·exact⟨hg,hw⟩
  ·rename_i l hl;have hb:=OU hl;split
   ·split
    ·rename_i g hs;refine⟨fun x hx=>?_,hw⟩;rcases Kg hx with hx|rfl
     ·exact hg x hx
     ·unfold Dr at hs;split at hs
      ·rename_i g' hg';split at hs
       ·cases hs;have:=hg g' (List.mem_of_find?_eq_some hg');exact⟨hb,this.2⟩
       ·cases hs
      ·cases hs
    ·refine⟨fun x hx=>hg x (eW.1 hx).1,fun x hx=>?_⟩;rcases Kh hx with hx|rfl
     ·exact hw x hx
     ·exact hb
   ·exact⟨hg,hw⟩
 rw[ar h2];by_cases h3:o.what=3
 ·rw[aA h3];have hs:=qV o.o o.proxy p.waits;unfold kV;split
  ·rename_i ws e;rw[e]at hs;exact⟨hg,fun x hx=>hw x (hs.subset hx)⟩
  ·rename_i ws x e;have hx:=Ar (o:=o.o) (proxy:=o.proxy) (ws:=p.waits) (g:=x) (by rw[e]);rw[e]at hs;refine⟨fun y hy=>?_,fun x hx=>hw x (hs.subset hx)⟩;rcases Kg hy with hy|rfl
   ·exact hg y hy
   ·exact⟨hw x hx,hu,hp⟩
 rw[ar h3];by_cases h4:o.what=4
 ·rw[aA h4];exact⟨hg,hw⟩
 rw[ar h4];by_cases h5:o.what=5
 ·rw[aA h5];unfold kX;split
  ·exact⟨hg,hw⟩
  ·split
   ·exact⟨hg,hw⟩
   ·exact⟨hg,hw⟩
 rw[ar h5];by_cases h6:o.what=6
 ·rw[aA h6];exact⟨hg,hw⟩
 rw[ar h6];by_cases h7:o.what=7
 ·rw[aA h7];unfold oI;split
  ·exact⟨hg,hw⟩
  ·exact⟨hg,hw⟩
 rw[ar h7];unfold rE;split
 ·exact rF.no
 ·have SS:rF (vT p o.o):=⟨fun x hx=>hg x (eW.1 hx).1,fun x hx=>hw x (eW.1 hx).1⟩;split
  ·exact⟨SS.bW,SS.waits⟩
  ·exact SS
def Dy(w:d_):Prop:=∀k,rF (w.part k)
theorem Dy.new:Dy G3:=fun _=>rF.no
theorem Dy.mX{w:d_}(h:Dy w)(o:kn)(hu:o.user.size<=5000)(hp:o.pass.size<=5000):Dy (mX w o).1:=by
 cases hr:o.right
 ·rw[G7 hr];exact h
 ·by_cases hw:o.what=10
  ·rw[Dt hr hw];split
   ·exact h
   ·exact h
  ·rw[Ds hr hw];intro k;by_cases hk:k=o.part.toNat
   ·subst hk;rw[d_.MM];exact(h _).wF _ _ hu hp
   ·rw[d_.G5 _ _ hk];exact h k
theorem kY(o:jB)(hs:List gU)(w:World)(h:gL w o hs) :
  aC 35 #[.agg o.cells.toArray] w fun e w'=>e=.returned (.bool (o.dP hs).right)/\Fr aW w w':=by
 have gu:=O (show(o.dP hs).right=(decide (1<=o.what)&&(decide (o.what<=10)&&(rG o.aI.part o.aI.method hs&&(nM o.aI.cQ&&(nM o.aI.o&&(decide (o.aI.path.size<=200)&&(o.aI.path.data.toList.head?==some 47&&decide (o.text.size<=3000))))))))from rfl);generalize (o.dP hs).right=res at gu ⊢;obtain⟨ah,ch,gq⟩:=dN h.ef;rw[aj]at gq
 have GD:o.cells=[.int .i64 o.what,.int .i64 o.aI.part,.bool o.aI.cQ.aG,.string o.aI.cQ.host,.int .i64 o.aI.cQ.port,.bool o.aI.o.aG,.string o.aI.o.host,.int .i64 o.aI.o.port,.string o.aI.path,.string o.aI.query,.string o.aI.method,.slice ah hs.length ch,.bool o.aI.fF,.string o.aI.body,.bool o.proxy,.string o.text,.string o.user,.string o.pass,.string o.bI,.int .i64 o.cert,.bool o.all,.int .i64 o.n]:=by unfold jB.cells fX.cells;rw[gq];rfl
 have uj:o.aI.cells=[.int .i64 o.aI.part,.bool o.aI.cQ.aG,.string o.aI.cQ.host,.int .i64 o.aI.cQ.port,.bool o.aI.o.aG,.string o.aI.o.host,.int .i64 o.aI.o.port,.string o.aI.path,.string o.aI.query,.string o.aI.method,.slice ah hs.length ch,.bool o.aI.fF,.string o.aI.body]:=by unfold fX.cells;rw[gq]
 obtain⟨w2,ez⟩:∃w2,w2=(w.alloc (.cells #[.int .i64 o.what,.int .i64 o.aI.part,.bool o.aI.cQ.aG,.string o.aI.cQ.host,.int .i64 o.aI.cQ.port,.bool o.aI.o.aG,.string o.aI.o.host,.int .i64 o.aI.o.port,.string o.aI.path,.string o.aI.query,.string o.aI.method,.slice ah hs.length ch,.bool o.aI.fF,.string o.aI.body,.bool o.proxy,.string o.text,.string o.user,.string o.pass,.string o.bI,.int .i64 o.cert,.bool o.all,.int .i64 o.n] 33)).alloc (.cells #[.int .i64 o.aI.part,.bool o.aI.cQ.aG,.string o.aI.cQ.host,.int .i64 o.aI.cQ.port,.bool o.aI.o.aG,.string o.aI.o.host,.int .i64 o.aI.o.port,.string o.aI.path,.string o.aI.query,.string o.aI.method,.slice ah hs.length ch,.bool o.aI.fF,.string o.aI.body] 29):=⟨_,rfl⟩
 have dD:Fr aW w w2:=by rw[ez];exact((ae aW w).alloc _).alloc _
 have k1:w2.heap[w.heap.size]?=some (.cells #[.int .i64 o.what,.int .i64 o.aI.part,.bool o.aI.cQ.aG,.string o.aI.cQ.host,.int .i64 o.aI.cQ.port,.bool o.aI.o.aG,.string o.aI.o.host,.int .i64 o.aI.o.port,.string o.aI.path,.string o.aI.query,.string o.aI.method,.slice ah hs.length ch,.bool o.aI.fF,.string o.aI.body,.bool o.proxy,.string o.text,.string o.user,.string o.pass,.string o.bI,.int .i64 o.cert,.bool o.all,.int .i64 o.n] 33 (0,0)):=by rw[ez];exact((ae aW _).alloc _).keep (aB _ _) id
 have k2:w2.heap[w.heap.size+1]?=some (.cells #[.int .i64 o.aI.part,.bool o.aI.cQ.aG,.string o.aI.cQ.host,.int .i64 o.aI.cQ.port,.bool o.aI.o.aG,.string o.aI.o.host,.int .i64 o.aI.o.port,.string o.aI.path,.string o.aI.query,.string o.aI.method,.slice ah hs.length ch,.bool o.aI.fF,.string o.aI.body] 29 (0,0)):=by
  have h:=aB (w.alloc (.cells #[.int .i64 o.what,.int .i64 o.aI.part,.bool o.aI.cQ.aG,.string o.aI.cQ.host,.int .i64 o.aI.cQ.port,.bool o.aI.o.aG,.string o.aI.o.host,.int .i64 o.aI.o.port,.string o.aI.path,.string o.aI.query,.string o.aI.method,.slice ah hs.length ch,.bool o.aI.fF,.string o.aI.body,.bool o.proxy,.string o.text,.string o.user,.string o.pass,.string o.bI,.int .i64 o.cert,.bool o.all,.int .i64 o.n] 33)) (.cells #[.int .i64 o.aI.part,.bool o.aI.cQ.aG,.string o.aI.cQ.host,.int .i64 o.aI.cQ.port,.bool o.aI.o.aG,.string o.aI.o.host,.int .i64 o.aI.o.port,.string o.aI.path,.string o.aI.query,.string o.aI.method,.slice ah hs.length ch,.bool o.aI.fF,.string o.aI.body] 29)
  rw[bM]at h;rw[ez];exact h
 have HC:=O (show∀U,Fr aW w2 U->U.cell? ⟨w.heap.size,0,none⟩=some (.int .i64 o.what)/\U.cell? ⟨w.heap.size,15,none⟩=some (.string o.text)/\U.cell? ⟨w.heap.size+1,0,none⟩=some (.int .i64 o.aI.part)/\U.cell? ⟨w.heap.size+1,1,none⟩=some (.bool o.aI.cQ.aG)/\U.cell? ⟨w.heap.size+1,2,none⟩=some (.string o.aI.cQ.host)/\U.cell? ⟨w.heap.size+1,3,none⟩=some (.int .i64 o.aI.cQ.port)/\U.cell? ⟨w.heap.size+1,4,none⟩=some (.bool o.aI.o.aG)/\U.cell? ⟨w.heap.size+1,5,none⟩=some (.string o.aI.o.host)/\U.cell? ⟨w.heap.size+1,6,none⟩=some (.int .i64 o.aI.o.port)/\U.cell? ⟨w.heap.size+1,7,none⟩=some (.string o.aI.path)/\U.cell? ⟨w.heap.size+1,8,none⟩=some (.string o.aI.query)/\U.cell? ⟨w.heap.size+1,9,none⟩=some (.string o.aI.method)/\U.cell? ⟨w.heap.size+1,10,none⟩=some (.slice ah hs.length ch)/\U.cell? ⟨w.heap.size+1,11,none⟩=some (.bool o.aI.fF)/\U.cell? ⟨w.heap.size+1,12,none⟩=some (.string o.aI.body)from fun U hU=>by
  have j1:=hU.keep k1 id;have j2:=hU.keep k2 id;simp[World.cell?,j1,j2])
 have C1:=O (show∀U,Fr aW w2 U->aC 64 #[.agg #[.int .i64 o.aI.part,.bool o.aI.cQ.aG,.string o.aI.cQ.host,.int .i64 o.aI.cQ.port,.bool o.aI.o.aG,.string o.aI.o.host,.int .i64 o.aI.o.port,.string o.aI.path,.string o.aI.query,.string o.aI.method,.slice ah hs.length ch,.bool o.aI.fF,.string o.aI.body]] U fun e w'=>e=.returned (.bool (rG o.aI.part o.aI.method hs))/\Fr aW U w' from fun U hU=>by
  have:=MT o.aI hs U (bG h.ef (dD.trans hU)) h.aI;rw[uj]at this;exact this)
 have C2:=O (show∀U,aC 65 #[.agg #[.bool o.aI.cQ.aG,.string o.aI.cQ.host,.int .i64 o.aI.cQ.port]] U fun e w'=>e=.returned (.bool (nM o.aI.cQ))/\Fr aW U w' from fun U=>Fm o.aI.cQ U h.cQ);have C3:=O (show∀U,aC 65 #[.agg #[.bool o.aI.o.aG,.string o.aI.o.host,.int .i64 o.aI.o.port]] U fun e w'=>e=.returned (.bool (nM o.aI.o))/\Fr aW U w' from fun U=>Fm o.aI.o U h.ori);have hpz:=h.path;have V6:=h.text
 have oz:=O ez;have fS:=O dD;rw[GD];clear h dD k1 k2 GD uj gq;obtain⟨a0,i_,b0,b1,b2,b3,b4,b5,b6,b7,b8,b9,Ym,Yn,Yo⟩:=HC.o w2 (ae _ _);rw[ez]at a0 i_ b0 b1 b2 b3 b4 b5 b6 b7 b8 b9 Ym Yn Yo;clear ez;by_cases h1:o.what>=1
 rotate_left
 ·have HR:=O (show res=false by rw[gu.o,bB (show¬1<=o.what from ab)];rfl);clear gu;go_enter func35,ntmps35;go_wp2;go_ret;exact⟨by rw[HR.o];rfl,by rw[<-oz.o];exact fS.o⟩
 by_cases h2:o.what<=10
 rotate_left
 ·have HR:=O (show res=false by rw[gu.o,bB h2,kf,Bool.and_false]);clear gu;go_enter func35,ntmps35;go_wp2;go_ret;exact⟨by rw[HR.o];rfl,by rw[<-oz.o];exact fS.o⟩
 have MJ:=O (show res=(rG o.aI.part o.aI.method hs&&(nM o.aI.cQ&&(nM o.aI.o&&(decide (o.aI.path.size<=200)&&(o.aI.path.data.toList.head?==some 47&&decide (o.text.size<=3000))))))by rw[gu.o,bK h2,bK (show 1<=o.what from ab)];rfl);clear gu;go_enter func35,ntmps35;go_wp2_with fail
 rw[<-oz.o];refine(C1.o w2 (ae _ _)).mono ?_;rintro e u1⟨rfl,uY⟩;cases e1:rG o.aI.part o.aI.method hs
 ·have HR:=O (show res=false by rw[MJ.o,e1];rfl);clear MJ e1;go_wp2;go_ret;exact⟨by rw[HR.o];rfl,fS.o.trans uY⟩
 have oU:=O (show res=(nM o.aI.cQ&&(nM o.aI.o&&(decide (o.aI.path.size<=200)&&(o.aI.path.data.toList.head?==some 47&&decide (o.text.size<=3000)))))by rw[MJ.o,e1];rfl);have Lx:=O uY;clear MJ e1 uY a0 i_ b0 b1 b2 b3 b4 b5 b6 b7 b8 b9 Ym Yn Yo;obtain⟨a0,i_,b0,b1,b2,b3,b4,b5,b6,b7,b8,b9,Ym,Yn,Yo⟩:=HC.o u1 Lx.o;go_wp2_with fail
 refine(C2.o u1).mono ?_;rintro e u2⟨rfl,lD⟩;cases e1:nM o.aI.cQ
 ·have HR:=O (show res=false by rw[oU.o,e1];rfl);clear oU e1;go_wp2;go_ret;exact⟨by rw[HR.o];rfl,fS.o.trans (Lx.o.trans lD)⟩
 have Of:=O (show res=(nM o.aI.o&&(decide (o.aI.path.size<=200)&&(o.aI.path.data.toList.head?==some 47&&decide (o.text.size<=3000))))by rw[oU.o,e1];rfl);have p_:=O (Lx.o.trans lD);clear oU e1 lD a0 i_ b0 b1 b2 b3 b4 b5 b6 b7 b8 b9 Ym Yn Yo;obtain⟨a0,i_,b0,b1,b2,b3,b4,b5,b6,b7,b8,b9,Ym,Yn,Yo⟩:=HC.o u2 p_.o;go_wp2_with fail
 refine(C3.o u2).mono ?_;rintro e u3⟨rfl,B8⟩;cases e1:nM o.aI.o
 ·have HR:=O (show res=false by rw[Of.o,e1];rfl);clear Of e1;go_wp2;go_ret;exact⟨by rw[HR.o];rfl,fS.o.trans (p_.o.trans B8)⟩
 have Uq:=O (show res=(decide (o.aI.path.size<=200)&&(o.aI.path.data.toList.head?==some 47&&decide (o.text.size<=3000)))by rw[Of.o,e1];rfl);have HU3:=O (p_.o.trans B8);clear Of e1 B8 a0 i_ b0 b1 b2 b3 b4 b5 b6 b7 b8 b9 Ym Yn Yo;obtain⟨a0,i_,b0,b1,b2,b3,b4,b5,b6,b7,b8,b9,Ym,Yn,Yo⟩:=HC.o u3 HU3.o;have HFZ:=O (fS.o.trans HU3.o);by_cases h3:(o.aI.path.size:Int)<=200
 rotate_left
 ·have HR:=O (show res=false by rw[Uq.o,bB (show¬o.aI.path.size<=200 from ab)];rfl);clear Uq;go_wp2;go_ret;exact⟨by rw[HR.o];rfl,HFZ.o⟩
 have RU:=O (show res=(o.aI.path.data.toList.head?==some 47&&decide (o.text.size<=3000))by rw[Uq.o,bK (show o.aI.path.size<=200 from ab)];rfl);clear Uq;by_cases h4:(o.aI.path.size:Int)>0
 rotate_left
 ·have HR:=O (show res=false by
   have e:o.aI.path.data.toList=[]:=bZ (by have:o.aI.path.data.toList.length=o.aI.path.size:=by simp
                                           omega)
   rw[RU.o,e];rfl)
  clear RU;go_wp2;go_ret;exact⟨by rw[HR.o];rfl,HFZ.o⟩
 have hp0:0<o.aI.path.size:=ab;have agZ:=byte_at o.aI.path 0 hp0;have hhd:o.aI.path.data.toList.head?=some o.aI.path[0]:=by rw[List.head?_eq_getElem?];exact agZ
 have Wn:=O (show res=(decide (o.aI.path[0]=47)&&decide (o.text.size<=3000))by
  rw[RU.o,hhd];by_cases q:o.aI.path[0]=47
  ·rw[q];rfl
  ·rw[bB q,aK.2 (fun e=>q (jK e))])
 clear RU hhd agZ;by_cases q:o.aI.path[0]=47
 rotate_left
 ·have HR:=O (show res=false by rw[Wn.o,bB q];rfl);have q2:((o.aI.path[0].toNat:Int)==47)=false:=by
   rw[aK];intro e;exact q (iD.1 (by show o.aI.path[0].toNat=47;omega))
  clear Wn;go_wp2;go_ret;exact⟨by rw[HR.o];rfl,HFZ.o⟩
 have HR:=O (show res=decide (o.text.size<=3000)by rw[Wn.o,bK q];rfl);have q2:((o.aI.path[0].toNat:Int)==47)=true:=by rw[q];rfl
 clear Wn q;go_wp2;go_ret;exact⟨by show Ending.returned (.bool (decide ((o.text.size:Int)<=3000)))=_;exact ft (by rw[HR.o];exact decide_eq_decide.2 ⟨fun h=>ab,fun h=>ab⟩),HFZ.o⟩
def uw(c:Nat)(P F:eB):eB:=⟨if c.testBit 0 then F.bW else P.bW,if c.testBit 0 then F.waits else P.waits,if c.testBit 1 then F.book else P.book,if c.testBit 2 then F.eH else P.eH⟩
def mz(w f:d_)(part:Int)(c:Nat):d_ :=
 if 0<=part/\part<4 then{part:=fun i=>if i=part.toNat then uw c (w.part i) (f.part i)else w.part i,now:=if c.testBit 3 then f.now else w.now}else w
open Go.ChangeShapes Go.WideShapes Go.ChangeAt Go.RowKit Go.Deep
variable {H : Type} {enc : TypeId × Value → H} {W : World}
structure sD (w:World) (o:jB) (hs:List gU):Prop where
 aI:VN w o.aI hs
 text:o.text.size<=140737488351232
 user:o.user.size<=140737488351232
 pass:o.pass.size<=140737488351232
 bI:o.bI.size<=140737488351232
 what:(Lit.int .i64 o.what).wf=true
 cert:(Lit.int .i64 o.cert).wf=true
 n:(Lit.int .i64 o.n).wf=true
abbrev D3(w:World)(v:Value)(os:List (jB×List gU)):Prop:=eb 22 w v (os.map fun o=>o.1.cells)/\os.length<=140737488355328/\∀o∈os,sD w o.1 o.2
theorem Lh:prog.cellsOf 33=22:=af
theorem zJ:prog.cellsOf 31=2:=af
theorem aiM{α:Type}{l:List α}(h:l.length=22):∃a0 a1 a2 a3 a4 a5 a6 a7 a8 a9 jr js a12 jq jt i_ jD jE jF jN a20 a21,l=[a0,a1,a2,a3,a4,a5,a6,a7,a8,a9,jr,js,a12,jq,jt,i_,jD,jE,jF,jN,a20,a21]:=by
 match l,h with
 |[a0,a1,a2,a3,a4,a5,a6,a7,a8,a9,jr,js,a12,jq,jt,i_,jD,jE,jF,jN,a20,a21],_=>exact⟨a0,a1,a2,a3,a4,a5,a6,a7,a8,a9,jr,js,a12,jq,jt,i_,jD,jE,jF,jN,a20,a21,rfl⟩
theorem NM{x:DataW H×List MemPlace}(h:DataW.trod enc prog W 0 (fun _=>true) true fuel 31 cs=some x) :
  ∃u p:ai,cs=[.string u,.string p]/\(oO prog 31 x.1->u.size<=reachBytes/\p.size<=reachBytes):=by
 obtain⟨hl,n,hf⟩:=nP underlying31 h;rw[zJ]at hl;obtain⟨c0,c1,rfl⟩:=aiJ hl;obtain⟨y0,h0,l0⟩:=hf 0 9 0 _ rfl iC;obtain⟨y1,h1,l1⟩:=hf 1 9 1 _ rfl iC;simp only[List.drop,List.take]at h0 h1;obtain⟨u,eu,wu⟩:=fj underlying9 h0;obtain⟨q,eq,wq⟩:=fj underlying9 h1;simp only[fA,iy]at eu eq;subst eu eq;exact⟨u,q,rfl,fun hL=>⟨wu (l0 hL),wq (l1 hL)⟩⟩
theorem O'{x:DataW H×List MemPlace}(h:DataW.trod enc prog W 0 (fun _=>true) true fuel 33 cs=some x) :
  ∃b:jB×List gU,cs=b.1.cells/\cs.length=22/\(∀u∈cs,u.oneCell'=true)/\(oO prog 33 x.1->sD W b.1 b.2):=by
 obtain⟨hl,n,hf⟩:=nP underlying33 h;rw[Lh]at hl;obtain⟨c0,c1,c2,c3,c4,c5,c6,c7,c8,c9,G1,T9,c12,c13,c14,c15,c16,c17,c18,c19,c20,c21,rfl⟩:=aiM hl;obtain⟨y0,h0,l0⟩:=hf 0 3 0 _ rfl pC;obtain⟨y1,h1,l1⟩:=hf 1 29 1 _ rfl Gb;obtain⟨y2,h2,l2⟩:=hf 2 4 14 _ rfl uB;obtain⟨y3,h3,l3⟩:=hf 3 9 15 _ rfl iC;obtain⟨y4,h4,l4⟩:=hf 4 31 16 _ rfl zJ;obtain⟨y5,h5,l5⟩:=hf 5 9 18 _ rfl iC
 obtain⟨y6,h6,l6⟩:=hf 6 3 19 _ rfl pC;obtain⟨y7,h7,l7⟩:=hf 7 4 20 _ rfl uB;obtain⟨y8,h8,l8⟩:=hf 8 3 21 _ rfl pC;simp only[List.drop,List.take]at h0 h1 h2 h3 h4 h5 h6 h7 h8;obtain⟨b0,e0,w0⟩:=kq underlying3 h0;obtain⟨r,⟨e1,_⟩,_,o1,s1⟩:=VO h1;obtain⟨b2,e2⟩:=nD underlying4 h2;obtain⟨b3,e3,w3⟩:=fj underlying9 h3;obtain⟨u4,p4,e4,s4⟩:=NM h4;obtain⟨b5,e5,w5⟩:=fj underlying9 h5
 obtain⟨b6,e6,w6⟩:=kq underlying3 h6;obtain⟨b7,e7⟩:=nD underlying4 h7;obtain⟨b8,e8,w8⟩:=kq underlying3 h8;rw[e1]at o1;unfold fX.cells at e1;simp only[fA,iy]at e0 e1 e2 e3 e4 e5 e6 e7 e8;obtain⟨rfl,rfl,rfl,rfl,rfl,rfl,rfl,rfl,rfl,rfl,rfl,rfl,rfl⟩:=e1;obtain⟨rfl,rfl⟩:=e4;subst e0 e2 e3 e5 e6 e7 e8;have dX:∀u∈(⟨b0,r.1,b2,b3,u4,p4,b5,b6,b7,b8⟩:jB).cells,u.oneCell'=true:=by
  intro u hu;unfold jB.cells at hu;rcases bu.1 hu with rfl|hu
  ·rfl
  rcases bP.1 hu with hu|hu
  ·exact o1 u hu
  ·simp only[bu,cg,dS]at hu;rcases hu with rfl|rfl|rfl|rfl|rfl|rfl|rfl|rfl<;>rfl
 refine⟨(⟨b0,r.1,b2,b3,u4,p4,b5,b6,b7,b8⟩,r.2),rfl,rfl,dX,fun hL=>?_⟩;have q4:=s4 (l4 hL);exact⟨s1 (l1 hL),w3 (l3 hL),q4.1,q4.2,w5 (l5 hL),w0,w6,w8⟩
instance:Inhabited (jB×List gU):=⟨(⟨0,⟨0,⟨false,.empty,0⟩,⟨false,.empty,0⟩,.empty,.empty,.empty,.nilIface,false,.empty⟩,false,.empty,.empty,.empty,.empty,0,false,0⟩,[])⟩
theorem NN{v:Value}{d:DataW H}{p:List MemPlace}(hv:Value.okWide prog W .any base 33 v)(h:DataW.Trod enc prog W 0 (fun _=>true) true 33 v d p)(hL:oO prog 33 d) :
  ∃(o:jB) (hs:List gU),v=.agg o.cells.toArray/\sD W o hs:=by
 obtain⟨cs,rfl,_⟩:=okWide_struct underlying33 hv;obtain⟨fuel,hf⟩:=h;simp only[Value.cells]at hf;obtain⟨b,e,_,_,hs⟩:=O' hf;refine⟨b.1,b.2,?_,hs hL⟩
 congr 1
 apply Array.ext';rw[e]
theorem VT(base:Nat)(w:World)(B:Nat)(pv:Nat->dm)(x:d_)(h:df base w B pv x) :
  aC 22 #[.pointer (some ⟨B,0,none⟩)] w fun e w'=>e=.returned (.int .i64 x.now)/\w'=w:=by
 have c:w.cell? ⟨B,12,none⟩=some (.int .i64 x.now):=by
  simp only[World.cell?,h.eG];rfl
 clear h;go_enter func22,ntmps22;go_wp2;go_ret;exact⟨rfl,rfl⟩
def mo(p:eB):Prop:=∀x∈p.waits,x.path.size<=5000
theorem mo.no:mo x_:=fun _ h=>by cases h
theorem mo.same(h:mo p)(e:q.waits=p.waits):mo q:=by unfold mo;rw[e];exact h
theorem mo.sub(h:mo p)(e:∀x∈q.waits,x∈p.waits):mo q:=fun x hx=>h x (e x hx)
theorem mo.wF{p:eB}(h:mo p)(now:Int)(o:kn)(hp:o.path.size<=5000):mo (wF p now o).1:=by
 unfold Go.Proofs.YtjndhcngnghpiaaGreatDoor.wF;by_cases h1:o.what=1
 ·rw[aA h1];unfold lu;split
  ·exact h.same rfl
  ·split
   ·exact h.same rfl
   ·exact h.same rfl
 rw[ar h1];by_cases h2:o.what=2
 ·rw[aA h2];unfold jo;split
  ·exact h
  ·split
   ·split
    ·exact h.same rfl
    ·intro x hx;rcases Kh hx with hx|rfl
     ·exact h x hx
     ·exact hp
   ·exact h
 rw[ar h2];by_cases h3:o.what=3
 ·rw[aA h3];have hs:=qV o.o o.proxy p.waits;unfold kV;split
  ·rename_i ws e;rw[e]at hs;exact h.sub (fun x hx=>hs.subset hx)
  ·rename_i ws x e;rw[e]at hs;exact h.sub (fun x hx=>hs.subset hx)
 rw[ar h3];by_cases h4:o.what=4
 ·rw[aA h4];exact h
 rw[ar h4];by_cases h5:o.what=5
 ·rw[aA h5];unfold kX;split
  ·exact h
  ·split
   ·exact h.same rfl
   ·exact h.same rfl
 rw[ar h5];by_cases h6:o.what=6
 ·rw[aA h6];exact h
 rw[ar h6];by_cases h7:o.what=7
 ·rw[aA h7];unfold oI;split
  ·exact h
  ·exact h.same rfl
 rw[ar h7];unfold rE;split
 ·exact mo.no
 ·split
  ·exact h.sub (fun x hx=>(eW.1 hx).1)
  ·exact h.sub (fun x hx=>(eW.1 hx).1)
def Dz(w:d_):Prop:=∀i,mo (w.part i)
theorem Dz.new:Dz G3:=fun _=>mo.no
theorem Dz.mX{w:d_}(h:Dz w)(o:kn)(hp:o.path.size<=5000):Dz (mX w o).1:=by
 unfold Go.Proofs.YtjndhcngnghpiaaGreatDoor.mX;split
 ·split
  ·split
   ·exact h
   ·exact h
  ·intro i;show mo ((w.set _ _).part i);unfold d_.set;simp only;split
   ·exact(h _).wF _ _ hp
   ·exact h i
 ·exact h
def bQ:bS:= #[.int .i64 0,.string ⟨#[]⟩,.int .i64 0]
theorem gL.gO{o:jB}(h:gL w o hs):∃ah ch,o.aI.ef=.slice ah hs.length ch:=by
 obtain⟨a,c,e⟩:=dN h.ef;rw[aj]at e;exact⟨a,c,e⟩
section
variable {base : Nat} {w w' : World} {B o : Nat} {cs : List Value} {v : dm} {p : eB}
theorem eO.fa(h:eO base w v p){n:Nat}{old:bS}(hn:w.heap[n]?=some (.cells old t (0,0)))(ht:t≠118/\t≠133/\t≠129/\t≠121/\t≠137/\t≠105):¬v.jM n:=fun hf=>by
 obtain⟨c,t',e,h'⟩:=h.h_ hf;rw[hn]at e;cases e;obtain⟨h1,h2,h3,h4,h5,h6⟩:=ht;rcases h' with h|h|h|h|h|h
 ·exact h1 h
 ·exact h2 h
 ·exact h3 h
 ·exact h4 h
 ·exact h5 h
 ·exact h6 h
theorem cX.row(h:cX base w B cs o v p w'){n:Nat}{old:bS}{t:TypeId}(o8:base<=w.heap.size)(hB:B<w.heap.size)(hn:w.heap.size<=n)(hr:w'.heap[n]?=some (.cells old t (0,0)))
  (ht:t≠118/\t≠133/\t≠129/\t≠121/\t≠137/\t≠105)(hs:t≠9)(new:bS):cX base w B cs o v p (w'.setRow n new):=by
 obtain⟨v',h1,h2,h3,h4⟩:=h;have kx:Fr (one n) w' (w'.setRow n new):=(ae (one n) w').setRow (fun _=>rfl) _;have mK:rL base w' (one n):=by
  rintro k rfl _;exact⟨ab,fun c f e=>by rw[hr]at e;cases e;exact hs rfl⟩
 refine⟨v',h1.fr kx mK (fun i hi e=>?_),h2.step kx (fun k hk e=>?_),h3,kx.keep h4 (fun e=>?_)⟩
 ·have e':i=n:=e;subst e';exact h1.fa hr ht hi
 ·have e':k=n:=e;omega
 ·have e':B=n:=e;omega
end
theorem eJ:(46:TypeId)≠118/\(46:TypeId)≠133/\(46:TypeId)≠129/\(46:TypeId)≠121/\(46:TypeId)≠137/\(46:TypeId)≠105:=ag
theorem bd(x:bS)(h:x.size=3):(prog.info? 46).map (·.size)=some x.size:=by rw[h];kernel_rfl
theorem ed{b:Nat}{o:jB}(h:w.heap[b]?=some (.cells o.cells.toArray 33 (0,0)))(hh:o.aI.ef=.slice ah hs.length ch):w.cell? ⟨b,0,none⟩=some (.int .i64 o.what)/\w.cell? ⟨b,1,none⟩=some (.int .i64 o.aI.part)/\w.cell? ⟨b,2,none⟩=some (.bool o.aI.cQ.aG)/\w.cell? ⟨b,3,none⟩=some (.string o.aI.cQ.host)/\w.cell? ⟨b,4,none⟩=some (.int .i64 o.aI.cQ.port)/\w.cell? ⟨b,5,none⟩=some (.bool o.aI.o.aG)/\w.cell? ⟨b,6,none⟩=some (.string o.aI.o.host)/\w.cell? ⟨b,7,none⟩=some (.int .i64 o.aI.o.port)/\w.cell? ⟨b,8,none⟩=some (.string o.aI.path)/\w.cell? ⟨b,9,none⟩=some (.string o.aI.query)/\w.cell? ⟨b,10,none⟩=some (.string o.aI.method)/\w.cell? ⟨b,11,none⟩=some (.slice ah hs.length ch)/\w.cell? ⟨b,12,none⟩=some (.bool o.aI.fF)/\w.cell? ⟨b,13,none⟩=some (.string o.aI.body)/\w.cell? ⟨b,14,none⟩=some (.bool o.proxy)/\w.cell? ⟨b,15,none⟩=some (.string o.text)/\w.cell? ⟨b,16,none⟩=some (.string o.user)/\w.cell? ⟨b,17,none⟩=some (.string o.pass)/\w.cell? ⟨b,18,none⟩=some (.string o.bI)/\w.cell? ⟨b,19,none⟩=some (.int .i64 o.cert)/\w.cell? ⟨b,20,none⟩=some (.bool o.all)/\w.cell? ⟨b,21,none⟩=some (.int .i64 o.n):=by
 have e:o.cells=[.int .i64 o.what,.int .i64 o.aI.part,.bool o.aI.cQ.aG,.string o.aI.cQ.host,.int .i64 o.aI.cQ.port,.bool o.aI.o.aG,.string o.aI.o.host,.int .i64 o.aI.o.port,.string o.aI.path,.string o.aI.query,.string o.aI.method,.slice ah hs.length ch,.bool o.aI.fF,.string o.aI.body,.bool o.proxy,.string o.text,.string o.user,.string o.pass,.string o.bI,.int .i64 o.cert,.bool o.all,.int .i64 o.n]:=by unfold jB.cells fX.cells;rw[hh];rfl
 rw[e]at h;simp only[World.cell?,h];exact⟨rfl,rfl,rfl,rfl,rfl,rfl,rfl,rfl,rfl,rfl,rfl,rfl,rfl,rfl,rfl,rfl,rfl,rfl,rfl,rfl,rfl,rfl⟩
theorem dV{o:jB}(hh:o.aI.ef=.slice ah hs.length ch):o.cells=[.int .i64 o.what,.int .i64 o.aI.part,.bool o.aI.cQ.aG,.string o.aI.cQ.host,.int .i64 o.aI.cQ.port,.bool o.aI.o.aG,.string o.aI.o.host,.int .i64 o.aI.o.port,.string o.aI.path,.string o.aI.query,.string o.aI.method,.slice ah hs.length ch,.bool o.aI.fF,.string o.aI.body,.bool o.proxy,.string o.text,.string o.user,.string o.pass,.string o.bI,.int .i64 o.cert,.bool o.all,.int .i64 o.n]:=by unfold jB.cells fX.cells;rw[hh];rfl
theorem zt{o:jB}(hh:o.aI.ef=.slice ah hs.length ch):o.aI.cells=[.int .i64 o.aI.part,.bool o.aI.cQ.aG,.string o.aI.cQ.host,.int .i64 o.aI.cQ.port,.bool o.aI.o.aG,.string o.aI.o.host,.int .i64 o.aI.o.port,.string o.aI.path,.string o.aI.query,.string o.aI.method,.slice ah hs.length ch,.bool o.aI.fF,.string o.aI.body]:=by unfold fX.cells;rw[hh]
def eD(base:Nat)(w:World)(B:Nat)(cs:aX)(off:Nat)(v:dm)(r:eB×ky)(e:Ending)(w':World):Prop :=
 e=.returned r.2.val/\cX base w B cs off v r.1 w'
abbrev dw := @cX.row
theorem Nd(hr:o.right=true):1<=o.what/\o.what<=10:=by
 unfold kn.right at hr;simp only[cy,dx]at hr;exact⟨hr.1,hr.2.1⟩
theorem anc(h:o.what=1):wF p n o=lu p o:=by
 unfold wF;rw[aA h]
theorem ane(h:o.what=2):wF p n o=jo p o:=by
 unfold wF;rw[ar ab,aA h]
theorem anf(h:o.what=3):wF p n o=kV p o:=by
 unfold wF;rw[ar ab,ar ab,aA h]
theorem ang(h:o.what=4):wF p n o=(p,rep (if mj p.book o.aI n then 5 else 4)):=by
 unfold wF;rw[ar ab,ar ab,ar ab,aA h]
theorem anh(h:o.what=5):wF p n o=kX p n o:=by
 unfold wF;rw[ar ab,ar ab,ar ab,ar ab,aA h]
theorem ani(h:o.what=6):wF p n o=(p,OP p o):=by
 unfold wF;rw[ar ab,ar ab,ar ab,ar ab,ar ab,aA h]
theorem anj(h:o.what=7):wF p n o=oI p o:=by
 unfold wF;rw[ar ab,ar ab,ar ab,ar ab,ar ab,ar ab,aA h]
theorem QV{part:Int}(h0:0<=part)(h1:part<4)(w f:d_)(c:Nat):mz w f part c={part:=fun i=>if i=part.toNat then uw c (w.part i) (f.part i)else w.part i,now:=if c.testBit 3 then f.now else w.now}:=by
 unfold mz;rw[aA ⟨h0,h1⟩]
theorem FT(hr:o.right=false):eN o=(0,false):=by unfold eN;rw[hr];rfl
structure nr (x:d_):Prop where
 ok:Dw x
 sm:Dy x
 path:Dz x
theorem nr.new:nr G3:=⟨Dw.new,Dy.new,Dz.new⟩
theorem nr.mX{x:d_}(h:nr x)(o:kn)(hu:o.user.size<=5000)(hp:o.pass.size<=5000)(ha:o.path.size<=5000):nr (mX x o).1 :=
 ⟨h.ok.mX o,h.sm.mX o hu hp,h.path.mX o ha⟩
theorem um{n:Nat}{x:Obj}(h:w.heap[n]?=some x)(hn:n≠B)(o:Nat)(u:Value):(w.setCell ⟨B,o,none⟩ u).heap[n]?=some x :=
 ((ae (one B) w).setCell (p:=⟨B,o,none⟩) (fun _=>rfl) u).keep h hn
theorem Ur{o:Nat}(h:o+2<cs.length):(oX cs o v)[o]?=some (.pointer (some ⟨v.b,0,none⟩))/\(oX cs o v)[o+1]?=some (.pointer (some ⟨v.k,0,none⟩))/\(oX cs o v)[o+2]?=some v.cv:=by
 unfold oX;refine⟨?_,?_,?_⟩
 ·rw[List.getElem?_set_ne ab,List.getElem?_set_ne ab,List.getElem?_set_self ab]
 ·rw[List.getElem?_set_ne ab,List.getElem?_set_self bF]
 ·rw[List.getElem?_set_self bF]
theorem Qx(cs:aX)(o:Nat)(v v':dm):oX (oX cs o v) o v'=oX cs o v':=by
 unfold oX;apply iT;intro i;simp only[List.getElem?_set,dW];by_cases h2:o+2=i
 ·simp[h2]
 by_cases h1:o+1=i
 ·simp[h1,h2]
 by_cases h0:o=i
 ·simp[h0]
 simp[h0,h1,h2]
theorem gJ.after{w w1:World}{B off:Nat}{cs:aX}{v v1:dm}(ha:gJ w B cs off v)(hb:w1.heap[B]?=some (.cells (oX cs off v1).toArray 97 (0,0))):gJ w1 B (oX cs off v1) off v1:=by
 have hl:off+2<cs.length:=(List.getElem?_eq_some_iff.1 ha.c2).1;obtain⟨h0,h1,h2⟩:=Ur (v:=v1) hl;exact⟨hb,h0,h1,h2⟩
theorem cX.seq{base:Nat}{w w1 w2:World}{B off:Nat}{cs:aX}{v v1:dm}{p2:eB}(f1:Fr (zr B v) w w1)(Bi:∀k,v1.jM k->v.jM k\/w.heap.size<=k)(h2:cX base w1 B (oX cs off v1) off v1 p2 w2):cX base w B cs off v p2 w2:=by
 obtain⟨v2,i2,f2,ag0,amq⟩:=h2;refine⟨v2,i2,f1.step f2 (fun k hk hp=>?_),fun k hk=>?_,?_⟩
 ·rcases hp with rfl|hp
  ·exact Or.inl rfl
  ·rcases Bi k hp with h|h
   ·exact Or.inr h
   ·omega
 ·rcases ag0 k hk with h|h
  ·exact Bi k h
  ·exact Or.inr (aE f1.size h)
 ·rw[amq,Qx]
theorem cX.fresh{off:Nat}(h:eO base w v p)(ha:gJ w B cs off v)(o8:base<=B) :
  cX base w B cs off v x_ (((((w.alloc (.cells #[.slice none 0 0,.slice none 0 0] 118)).alloc (.cells #[.slice none 0 0] 121)).setCell ⟨B,off,none⟩ (.pointer (some ⟨w.heap.size,0,none⟩))).setCell ⟨B,off+1,none⟩ (.pointer (some ⟨w.heap.size+1,0,none⟩))).setCell ⟨B,off+2,none⟩ (.slice none 0 0)):=by
 have hB:¬v.jM B:=h.fa ha.eG ag;have uo:B<w.heap.size:=bg ha.eG;obtain⟨W,hW⟩:∃W,W=(w.alloc (.cells #[.slice none 0 0,.slice none 0 0] 118)).alloc (.cells #[.slice none 0 0] 121):=⟨_,rfl⟩;have hf:Fr aW w W:=by rw[hW];exact((ae aW w).alloc _).alloc _
 have xg:W.heap[w.heap.size]?=some (.cells #[.slice none 0 0,.slice none 0 0] 118 (0,0)):=by rw[hW];exact((ae aW _).alloc _).keep (aB _ _) id
 have Lv:W.heap[w.heap.size+1]?=some (.cells #[.slice none 0 0] 121 (0,0)):=by
  have h:=aB (w.alloc (.cells #[.slice none 0 0,.slice none 0 0] 118)) (.cells #[.slice none 0 0] 121);rw[bM]at h;rw[hW];exact h
 rw[<-hW];have pI:=hf.keep ha.eG id;obtain⟨V,hV⟩:∃V,V=((W.setCell ⟨B,off,none⟩ (.pointer (some ⟨w.heap.size,0,none⟩))).setCell ⟨B,off+1,none⟩ (.pointer (some ⟨w.heap.size+1,0,none⟩))).setCell ⟨B,off+2,none⟩ (.slice none 0 0):=⟨_,rfl⟩;have Wo:Fr (one B) W V:=by
  rw[hV];exact(((ae (one B) W).setCell (p:=⟨B,off,none⟩) (fun _=>rfl) _).setCell (p:=⟨B,off+1,none⟩) (fun _=>rfl) _).setCell (p:=⟨B,off+2,none⟩) (fun _=>rfl) _
 have hbV:V.heap[B]?=some (.cells (oX cs off ⟨w.heap.size,.slice none 0 0,.slice none 0 0,w.heap.size+1,.slice none 0 0,.slice none 0 0⟩).toArray 97 (0,0)):=by
  have e1:=b_ pI off (.pointer (some ⟨w.heap.size,0,none⟩));have e2:=b_ e1 (off+1) (.pointer (some ⟨w.heap.size+1,0,none⟩));have e3:=b_ e2 (off+2) (.slice none 0 0);rw[hV,e3];unfold oX;simp
 rw[<-hV]
 refine⟨⟨w.heap.size,.slice none 0 0,.slice none 0 0,w.heap.size+1,.slice none 0 0,.slice none 0 0⟩,⟨⟨by show base<=w.heap.size;omega,Wo.keep xg (fun e=>by have e':w.heap.size=B:=e;omega),⟨[],dr _ _ _ _,.nil⟩,⟨[],dr _ _ _ _,.nil⟩⟩,⟨by show base<=w.heap.size+1;omega,Wo.keep Lv (fun e=>by have e':w.heap.size+1=B:=e;omega),dr _ _ _ _⟩,dr _ _ _ _⟩,fL (S:=zr B v) (hf.mono (fun _ _ h=>absurd h id)) Wo (fun _ _ e=>Or.inl e),?_,hbV⟩
 rintro k(hk|hk|hk)
 ·rcases hk with hk|hk|hk
  ·have e:k=w.heap.size:=hk;exact Or.inr ab
  ·simp[own,Value.ownBlock]at hk
  ·simp[own,Value.ownBlock]at hk
 ·rcases hk with hk|hk
  ·have e:k=w.heap.size+1:=hk;exact Or.inr ab
  ·simp[own,Value.ownBlock]at hk
 ·simp[own,Value.ownBlock]at hk
def fi(t:TypeId):Prop:=t≠118/\t≠133/\t≠129/\t≠121/\t≠137/\t≠105
theorem eF{w':World}{n:Nat}{c:bS}(h:eO base w v p)(hf:Fr (zr B v) w w')(hn:w.heap[n]?=some (.cells c t (0,0)))(ht:fi t)(hB:n≠B):w'.heap[n]?=some (.cells c t (0,0)) :=
 hf.keep hn (fun e=>by
  rcases e with e|e
  ·exact hB e
  ·exact h.fa hn ht e)
theorem kZ:fi 33:=by unfold fi;decide
theorem pB:fi 24:=by unfold fi;decide
theorem dR:fi 46:=by unfold fi;decide
theorem FJ:fi 29:=by unfold fi;decide
theorem Au:fi 127:=by unfold fi;decide
abbrev ia := @gJ.after
abbrev gz := @cX.seq
structure ux where
 does:Nat
 op:kn
 fails:Nat
 mM:Int
 seen:d_
 num:Nat->Nat->Int
 iI:ky
def ank:kn:=⟨0,0,⟨false,.empty,0⟩,⟨false,.empty,0⟩,.empty,.empty,.empty,[],false,.empty,false,.empty,.empty,.empty,.empty,0,false,0⟩
def fN:ux:=⟨0,ank,0,0,G3,fun _ _=>0,rep 0⟩
structure U5 where
 tab:Nat
 op:kn
 iI:ky
 mM:Int
 fin:Int
structure gB where
 w:d_
 num:Nat->Nat->Int
 tab:Nat->ux
 steps:Int
 fO:List U5
def xo:gB:=⟨G3,fun _ _=>0,fun _=>fN,0,[]⟩
def gB.put(t:gB)(n:Nat)(x:ux):gB:={t with tab:=fun i=>if i=n then x else t.tab i}
def mQ(o:kn):List (Nat×Nat):=[0,1,2,3].filterMap fun i=>if(eN o).1.testBit i then some (if i=3 then 0 else o.part.toNat,i)else none
def FU(o:kn)(f:Nat->Nat->Int):List Int:=(mQ o).map fun c=>f c.1 c.2
def FV(o:kn)(f:Nat->Nat->Int):Nat->Nat->Int:=fun p i=>if(p,i)∈mQ o then f p i+1 else f p i
def mA(t:gB)(n:Nat)(r:ky):gB :=
 {t with fO:=t.fO++[⟨n,(t.tab n).op,r,(t.tab n).mM,t.steps⟩],tab:=fun i=>if i=n then fN else t.tab i}
def jc(t:gB)(n:Nat):gB×(ky×Bool) :=
 if FU (t.tab n).op t.num=FU (t.tab n).op (t.tab n).num then
  (mA (if(eN (t.tab n).op).2 then{t with w:=mz t.w (t.tab n).seen (t.tab n).op.part (eN (t.tab n).op).1,num:=FV (t.tab n).op t.num}else t) n (t.tab n).iI,(t.tab n).iI,true)
 else if(t.tab n).fails+1<=3 then(t.put n {t.tab n with fails:=(t.tab n).fails+1,does:=1},rep 0,false)
 else(mA (t.put n {t.tab n with fails:=(t.tab n).fails+1}) n (rep 6),rep 6,true)
def stepT(t:gB)(n:Nat):gB×(ky×Bool) :=
 if(t.tab n).does=1 then({(t.put n {t.tab n with seen:=t.w,num:=t.num,does:=2})with steps:=t.steps+1},rep 0,false)
 else if(t.tab n).does=2 then({(t.put n {t.tab n with iI:=(mX (t.tab n).seen (t.tab n).op).2,seen:=(mX (t.tab n).seen (t.tab n).op).1,does:=3})with steps:=t.steps+1},rep 0,false)
 else jc {t with steps:=t.steps+1} n
def vX(n:Int):Bool:=decide (0<=n)&&decide (n<6)
def jO(t:gB)(n:Int):gB×(ky×Bool×Nat) :=
 if vX n then
  if(t.tab n.toNat).does=0 then(t,rep 0,false,8)else((stepT t n.toNat).1,(stepT t n.toNat).2.1,(stepT t n.toNat).2.2,0)
 else(t,rep 0,false,2)
def uZ(t:gB)(n:Int)(o:kn):gB×Nat :=
 if vX n then
  if(t.tab n.toNat).does=0 then({(t.put n.toNat {fN with does:=1,op:=o,mM:=t.steps+1})with steps:=t.steps+1},0)else(t,6)
 else(t,2)
def qN(t:gB)(n:Int):gB×Nat :=
 if vX n then
  if(t.tab n.toNat).does=0 then(t,8)else({(t.put n.toNat fN)with steps:=t.steps+1},0)
 else(t,2)
def O0(t:gB)(n:Int):Nat:=if vX n then(t.tab n.toNat).does else 0
structure Wu where
 kind:Int
 tab:Int
 op:kn
def sx(t:gB)(m:Wu):gB :=
 if m.kind=1 then(uZ t m.tab m.op).1 else if m.kind=2 then(qN t m.tab).1 else if m.kind=0 then(jO t m.tab).1 else t
def yd(l:List Wu):gB:=l.foldl sx xo
theorem U6{p i:Nat}:(p,i)∈mQ o↔i<4/\(eN o).1.testBit i=true/\p=(if i=3 then 0 else o.part.toNat):=by
 unfold mQ;simp only[List.mem_filterMap,bu,cg,dS];constructor
 ·rintro⟨j,hj,h⟩;split at h
  ·rename_i hb;simp only[eh,iB]at h;obtain⟨h1,rfl⟩:=h;exact⟨ab,hb,h1.symm⟩
  ·cases h
 ·rintro⟨h1,h2,h3⟩;exact⟨i,ab,by rw[aA h2,h3]⟩
theorem Uk.aaD{n:Nat}{er:Value}(h:Uk n er w):∃t x,er=.iface t x:=by
 rcases h with rfl|⟨g,p,rfl,_⟩
 ·exact⟨_,_,rfl⟩
 ·exact⟨_,_,rfl⟩
theorem KI(base:Nat)(w:World)(B off:Nat)(cs:aX)(v:dm)(p:eB)(o:jB)(hs:List gU)(now:Int)(h:eO base w v p)(ha:gJ w B cs off v)(o8:base<=B)(hf:gL w o hs)(hk:mY p)(ht:xh w)(n0:0<=now)(n1:now<=1099511627776) :
  aC 46 #[.pointer (some ⟨B,off,none⟩),.agg o.cells.toArray,.int .i64 now] w (eD base w B cs off v (kX p now (o.dP hs))):=by
 have uo:B<w.heap.size:=bg ha.eG;have FP:¬v.jM B:=h.fa ha.eG ag;obtain⟨ah,ch,gq⟩:=hf.gO;have QR:=hk.rf.2.2.1;have Q4:=hf.text;obtain⟨w2,ez⟩:∃w2,w2=(w.alloc (.cells o.cells.toArray 33)).alloc (.cells bQ 46):=⟨_,rfl⟩;have dD:Fr aW w w2:=by rw[ez];exact((ae aW w).alloc _).alloc _
 have k1:w2.heap[w.heap.size]?=some (.cells o.cells.toArray 33 (0,0)):=by rw[ez];exact((ae aW _).alloc _).keep (aB _ _) id
 have k2:w2.heap[w.heap.size+1]?=some (.cells bQ 46 (0,0)):=by
  have h:=aB (w.alloc (.cells o.cells.toArray 33)) (.cells bQ 46);rw[bM]at h;rw[ez];exact h
 have US:=O (show∀U,Fr aW w2 U->U.heap[w.heap.size]?=some (.cells o.cells.toArray 33 (0,0))from fun U hU=>hU.keep k1 id);have B_:=O FP;have HH:=O h;have HA:=O ha;have HF:=O hf;have lg:=O gq;have HT:=O ht;have fS:=O dD;have qx:=O k2;have pU:=O (show base<=w.heap.size from ab);have oM:=O uo;have FL:=O (Np o.text w2 Q4);have QE:=O ez
 obtain⟨a0,a1,a2,a3,a4,a5,a6,a7,a8,a9,jr,js,a12,jq,jt,i_,jD,jE,jF,jN,a20,a21⟩:=ed k1 gq;rw[ez]at a0 a1 a2 a3 a4 a5 a6 a7 a8 a9 jr js a12 jq jt i_ jD jE jF jN a20 a21;rw[dV gq]at ez a0 a1 a2 a3 a4 a5 a6 a7 a8 a9 jr js a12 jq jt i_ jD jE jF jN a20 a21 ⊢;unfold bQ at ez a0 a1 a2 a3 a4 a5 a6 a7 a8 a9 jr js a12 jq jt i_ jD jE jF jN a20 a21;have oz:=O ez;clear ez gq dD k1 k2 h ha hf FP hk ht Q4
 go_enter func46,ntmps46;go_wp2_with fail
 rw[<-oz.o];refine FL.o.mono ?_;rintro e u1 JS;clear a0 a1 a2 a3 a4 a5 a6 a7 a8 a9 jr js a12 jq jt i_ jD jE jF jN a20 a21;obtain⟨uY,JS⟩:=JS;have Lx:=O uY;cases za:mF o.text.data.toList with
 |error n =>
  rw[za]at JS;obtain⟨er,rfl,hen⟩:=JS;obtain⟨et,ev,rfl⟩:=hen.aaD;have HR:=O (show kX p now (o.dP hs)=(p,rep 7)by unfold kX;rw[show(o.dP hs).text=o.text from rfl,za]);have Ay:=O (uY.keep qx.o id);clear za hen uY
  go_wp2_with (first|((with_reducible refine cP 46 ?_);refine aF rfl 46 (.tmp 6) (.tmp 18) rfl (w.heap.size+1) #[.int .i64 7,.string ⟨#[]⟩,.int .i64 0] rfl rfl _ bQ Ay.o (bd _ rfl) rfl bX ?_)|fail)
  refine aR (bh bw _ _ (w.heap.size+1) 46 #[.int .i64 7,.string ⟨#[]⟩,.int .i64 0] (0,0) _ rfl (aY u1 (w.heap.size+1) _ _ _ _ Ay.o) underlying46 rfl (bd _ rfl)) rfl ?_;unfold eD;rw[HR.o];exact⟨rfl,dw (lX HH.o HA.o (fS.o.trans Lx.o)) pU.o oM.o (bT _) Ay.o eJ ag _⟩
 |ok l =>
  rw[za]at JS;obtain⟨v1,rfl,Ac⟩:=JS;have rA:=Ac.form;rw[aj]at rA;obtain⟨al,cl,rfl⟩:=rA;have nv:=Hj za;have hh1:=bG HF.o.ef (fS.o.trans uY);have GR:=O (QY o.aI hs _ l now u1 hh1 Ac.at nv HF.o.aI (HT.o.fr (fS.o.trans uY)) HF.o.Up.1 HF.o.Up.2 HF.o.cQ n0 n1);rw[zt lg.o]at GR;obtain⟨a0,a1,a2,a3,a4,a5,a6,a7,a8,a9,jr,js,a12,jq,jt,i_,jD,jE,jF,jN,a20,a21⟩:=ed (US.o u1 uY) lg.o;have HFL:=O za
  clear za uY Ac nv hh1;go_wp2_with fail
  refine GR.o.mono ?_;rintro e u2⟨lD,EY⟩;clear a0 a1 a2 a3 a4 a5 a6 a7 a8 a9 jr js a12 jq jt i_ jD jE jF jN a20 a21 GR;have p_:=O (Lx.o.trans lD);have rq:=O (fS.o.trans p_.o);cases hg:tW (o.aI.dP hs) (wS o.aI.cQ).data.toList l now with
  |error n =>
   rw[hg]at EY;obtain rfl:=EY;have HR:=O (show kX p now (o.dP hs)=({p with book:=p.book.filter (fun q=>!q.uH (o.aI.dP hs))},rep 2)by
    unfold kX;rw[show(o.dP hs).text=o.text from rfl,HFL.o];simp only;rw[show tW (o.dP hs).aI (EN (o.dP hs).cQ.dP) l now=.error n from hg];rfl)
   have F0:=O (show∀U,Fr (ig v.k v.kv) u2 U->(U.cell? ⟨B,off+1,none⟩=some (.pointer (some ⟨v.k,0,none⟩))/\U.cell? ⟨w.heap.size,1,none⟩=some (.int .i64 o.aI.part)/\U.cell? ⟨w.heap.size,2,none⟩=some (.bool o.aI.cQ.aG)/\U.cell? ⟨w.heap.size,3,none⟩=some (.string o.aI.cQ.host)/\U.cell? ⟨w.heap.size,4,none⟩=some (.int .i64 o.aI.cQ.port)/\U.cell? ⟨w.heap.size,5,none⟩=some (.bool o.aI.o.aG)/\U.cell? ⟨w.heap.size,6,none⟩=some (.string o.aI.o.host)/\U.cell? ⟨w.heap.size,7,none⟩=some (.int .i64 o.aI.o.port)/\U.cell? ⟨w.heap.size,8,none⟩=some (.string o.aI.path)/\U.cell? ⟨w.heap.size,9,none⟩=some (.string o.aI.query)/\U.cell? ⟨w.heap.size,10,none⟩=some (.string o.aI.method)/\U.cell? ⟨w.heap.size,11,none⟩=some (.slice ah hs.length ch)/\U.cell? ⟨w.heap.size,12,none⟩=some (.bool o.aI.fF)/\U.cell? ⟨w.heap.size,13,none⟩=some (.string o.aI.body))from fun U hU=>by
    have j1:=(HA.o.dt rq.o).fr hU (fun hb=>B_.o (Or.inr (Or.inl hb)));have j2:=hU.keep (US.o u2 p_.o) (fun hb=>by
     have h3:=(HH.o.dt rq.o).book.h_ hb;obtain⟨c,t,e,hk⟩:=h3;rw[US.o u2 p_.o]at e;cases e;revert hk;decide)
    obtain⟨a0,a1,a2,a3,a4,a5,a6,a7,a8,a9,jr,js,a12,jq,jt,i_,jD,jE,jF,jN,a20,a21⟩:=ed j2 lg.o;exact⟨j1.gV,a1,a2,a3,a4,a5,a6,a7,a8,a9,jr,js,a12,jq⟩)
   have HFG:=O (show∀U,Fr aW u2 U->aC 88 #[.pointer (some ⟨v.k,0,none⟩),.agg #[.int .i64 o.aI.part,.bool o.aI.cQ.aG,.string o.aI.cQ.host,.int .i64 o.aI.cQ.port,.bool o.aI.o.aG,.string o.aI.o.host,.int .i64 o.aI.o.port,.string o.aI.path,.string o.aI.query,.string o.aI.method,.slice ah hs.length ch,.bool o.aI.fF,.string o.aI.body]] U (tH base U v.k v.kv p.book (en.uH (o.aI.dP hs)))from fun U hU=>by
    have:=Kk base U v.k v.kv p.book o.aI hs ((HH.o.dt rq.o).dt hU).book ab;rw[zt lg.o]at this;exact this)
   clear hg;go_wp2_with fail
   go_region_held3 (fun U=>Fr (ig v.k v.kv) u2 U/\U.cell? ⟨B,off+1,none⟩=some (.pointer (some ⟨v.k,0,none⟩))/\U.cell? ⟨w.heap.size,1,none⟩=some (.int .i64 o.aI.part)/\U.cell? ⟨w.heap.size,2,none⟩=some (.bool o.aI.cQ.aG)/\U.cell? ⟨w.heap.size,3,none⟩=some (.string o.aI.cQ.host)/\U.cell? ⟨w.heap.size,4,none⟩=some (.int .i64 o.aI.cQ.port)/\U.cell? ⟨w.heap.size,5,none⟩=some (.bool o.aI.o.aG)/\U.cell? ⟨w.heap.size,6,none⟩=some (.string o.aI.o.host)/\U.cell? ⟨w.heap.size,7,none⟩=some (.int .i64 o.aI.o.port)/\U.cell? ⟨w.heap.size,8,none⟩=some (.string o.aI.path)/\U.cell? ⟨w.heap.size,9,none⟩=some (.string o.aI.query)/\U.cell? ⟨w.heap.size,10,none⟩=some (.string o.aI.method)/\U.cell? ⟨w.heap.size,11,none⟩=some (.slice ah hs.length ch)/\U.cell? ⟨w.heap.size,12,none⟩=some (.bool o.aI.fF)/\U.cell? ⟨w.heap.size,13,none⟩=some (.string o.aI.body)) ((refine(fun hU=>⟨hU,F0.o _ hU⟩) ?_;first|exact az (ae _ _)|assumption))
    ((first
     |(go_at_call 88;refine(HFG.o _ (az (ae _ _))).mono ?_;rintro e u3 ⟨rfl,sN⟩;have vW:Fr (ig v.k v.kv) u2 u3:=(az (ae _ _)).trans (by obtain⟨_,_,h,_⟩:=sN;exact h))))
   have HPP:=O (oJ ((HH.o.dt rq.o).dt (az (ae aW u2))) ((HA.o.dt rq.o).dt (az (ae aW u2))) B_.o sN);have Ay:=O (vW.keep (p_.o.keep qx.o id) (fun hb=>by
    obtain⟨c,t,e,hk⟩:=(HH.o.dt rq.o).book.h_ hb;rw[p_.o.keep qx.o id]at e;cases e;revert hk;decide))
   clear sN vW F0 HFG;go_wp2_with (first|((with_reducible refine cP 46 ?_);refine aF rfl 46 (.tmp 6) (.tmp 36) rfl (w.heap.size+1) #[.int .i64 2,.string ⟨#[]⟩,.int .i64 0] rfl rfl _ bQ Ay.o (bd _ rfl) rfl bX ?_)|fail)
   refine aR (bh bw _ _ (w.heap.size+1) 46 #[.int .i64 2,.string ⟨#[]⟩,.int .i64 0] (0,0) _ rfl (aY u3 (w.heap.size+1) _ _ _ _ Ay.o) underlying46 rfl (bd _ rfl)) rfl ?_;unfold eD;rw[HR.o];exact⟨rfl,dw ((HPP.o.after (az (ae aW u2))).after rq.o) pU.o oM.o (bT _) Ay.o eJ ag _⟩
  |ok m =>
   rw[hg]at EY;obtain⟨v2,rfl,qE⟩:=EY;have HR:=O (show kX p now (o.dP hs)=({p with book:=tV p.book m now},rep 1)by
    unfold kX;rw[show(o.dP hs).text=o.text from rfl,HFL.o];simp only;rw[show tW (o.dP hs).aI (EN (o.dP hs).cQ.dP) l now=.ok m from hg])
   have si:=Q3 hg;have hbo:=(HH.o.dt rq.o).book;have ah8:=qE.form;rw[aj]at ah8;obtain⟨am,cm,rfl⟩:=ah8;have HP:=O (J7 base u2 v.k v.kv p.book _ m now hbo qE.at (fun _ k hk hb=>by
    have h1:=qE.block k hk;have h2:=HH.o.ja (Or.inr (Or.inl hb));have h3:=fS.o.size;have h4:=Lx.o.size;omega) ab)
   have c1:=(HA.o.dt rq.o).gV;clear hg si hbo qE;go_wp2_with fail
   refine HP.o.mono ?_;rintro e u3⟨rfl,sN⟩;have HPP:=O (oJ (HH.o.dt rq.o) (HA.o.dt rq.o) B_.o sN);have vW:Fr (ig v.k v.kv) u2 u3:=by obtain⟨_,_,h,_⟩:=sN;exact h
   have Ay:=O (vW.keep (p_.o.keep qx.o id) (fun hb=>by
    obtain⟨c,t,e,hk⟩:=(HH.o.dt rq.o).book.h_ hb;rw[p_.o.keep qx.o id]at e;cases e;revert hk;decide))
   clear sN vW HP c1;go_wp2_with (first|((with_reducible refine cP 46 ?_);refine aF rfl 46 (.tmp 6) (.tmp 44) rfl (w.heap.size+1) #[.int .i64 1,.string ⟨#[]⟩,.int .i64 0] rfl rfl _ bQ Ay.o (bd _ rfl) rfl bX ?_)|fail)
   refine aR (bh bw _ _ (w.heap.size+1) 46 #[.int .i64 1,.string ⟨#[]⟩,.int .i64 0] (0,0) _ rfl (aY u3 (w.heap.size+1) _ _ _ _ Ay.o) underlying46 rfl (bd _ rfl)) rfl ?_;unfold eD;rw[HR.o];exact⟨rfl,dw (HPP.o.after rq.o) pU.o oM.o (bT _) Ay.o eJ ag _⟩
theorem cX.eH{base:Nat}{w1 w2:World}{B off:Nat}{cs:aX}{v:dm}{p:eB}{cv':Value}{l:List (gy×Int)}(h:eO base w1 v p)(ha:gJ w1 B cs off v)(o8:base<=B)(ho:OwnRows base 105 4 w2 cv' (l.map lW))(hf:Fr (own v.cv) w1 w2)(cO:∀k,own cv' k->own v.cv k\/w1.heap.size<=k) :
  cX base w1 B cs off v {p with eH:=l} (w2.setCell ⟨B,off+2,none⟩ cv'):=by
 have hB:¬v.jM B:=h.fa ha.eG ag;have pI:=hf.keep ha.eG (fun hb=>hB (Or.inr (Or.inr hb)));have mK:rL base w1 (own v.cv):=fun k hk hl=>h.off k (Or.inr (Or.inr hk)) hl;have kx:Fr (one B) w2 (w2.setCell ⟨B,off+2,none⟩ cv'):=(ae (one B) w2).setCell (p:=⟨B,off+2,none⟩) (fun _=>rfl) _;have anS:rL base w2 (one B):=by
  rintro k rfl _;exact⟨o8,fun c f e=>by rw[pI]at e;cases e⟩
 have uo:B<w1.heap.size:=bg ha.eG;have p2:dB base w2 v.b v.gv v.wv p.bW p.waits:=h.oW.fr hf mK (fun hb=>h.wI (Or.inl rfl) hb) (fun k hk hb=>h.wI (Or.inr (Or.inl hk)) hb) (fun k hk hb=>h.wI (Or.inr (Or.inr hk)) hb);have p3:eM base w2 v.k v.kv p.book:=h.book.fr hf (fun k hk hb=>h.FH hk hb);refine⟨⟨v.b,v.gv,v.wv,v.k,v.kv,cv'⟩,⟨p2.fr kx anS ?_ ?_ ?_,p3.fr kx ?_,ho.fr kx ?_⟩,?_,?_,?_⟩
 ·intro e;exact hB (Or.inl (by rw[<-show v.b=B from e];exact Or.inl rfl))
 ·intro k hk e;exact hB (Or.inl (by rw[<-show k=B from e];exact Or.inr (Or.inl hk)))
 ·intro k hk e;exact hB (Or.inl (by rw[<-show k=B from e];exact Or.inr (Or.inr hk)))
 ·intro k hk e;exact hB (Or.inr (Or.inl (by rw[<-show k=B from e];exact hk)))
 ·intro k hk e;have e':k=B:=e;subst e';rcases cO k hk with h1|h1
  ·exact hB (Or.inr (Or.inr h1))
  ·omega
 ·exact(show Fr (zr B v) w1 w2 from hf.mono (fun k _ hk=>Or.inr (Or.inr (Or.inr hk)))).setCell (p:=⟨B,off+2,none⟩) (fun _=>Or.inl rfl) _
 ·rintro k(hk|hk|hk)
  ·exact Or.inl (Or.inl hk)
  ·exact Or.inl (Or.inr (Or.inl hk))
  ·rcases cO k hk with h1|h1
   ·exact Or.inl (Or.inr (Or.inr h1))
   ·exact Or.inr h1
 ·have e:=b_ pI (off+2) cv';rw[e];have e2:oX cs off ⟨v.b,v.gv,v.wv,v.k,v.kv,cv'⟩=cs.set (off+2) cv':=by
   have:=wK ha.c0 ha.c1 ha.c2;unfold oX at this ⊢;simp only;have h3:(cs.set off (.pointer (some ⟨v.b,0,none⟩))).set (off+1) (.pointer (some ⟨v.k,0,none⟩))=cs:=by
    apply iT;intro i;by_cases h1:i=off+1
    ·subst h1;rw[List.getElem?_set_self (by simp;exact(List.getElem?_eq_some_iff.1 ha.c1).1),ha.c1]
    rw[List.getElem?_set_ne (kH h1)];by_cases h0:i=off
    ·subst h0;rw[List.getElem?_set_self (List.getElem?_eq_some_iff.1 ha.c0).1,ha.c0]
    rw[List.getElem?_set_ne (kH h0)]
   rw[h3]
  rw[e2];simp
theorem Hl(o:gy)(l:List (gy×Int)):(l.map lW).filter (fun x=>!OL o x)=(Ka o l).map lW:=by
 unfold Ka;rw[List.filter_map];rfl
theorem F7(c:gy×Int):∀u∈lW c,u.oneCell'=true:=by
 intro u hu;unfold lW at hu;simp only[bu,cg,dS]at hu;rcases hu with rfl|rfl|rfl|rfl<;>rfl
theorem Nt(c:gy×Int)(o:gy)(bo:Nat)(w:World)(ho:w.heap[bo]?=some (.cells #[.bool o.aG,.string o.host,.int .i64 o.port] 24 (0,0))) :
  aC 148 #[.agg (lW c).toArray,.pointer (some ⟨bo,0,none⟩)] w fun e w'=>e=.returned (.bool (OL o (lW c)))/\Fr aW w w':=by
 have hC:=O (show OL o (lW c)=c.1.kQ o from rfl);have heq:=jW c.1 o;rw[hC.o];unfold lW;have iv:Fr aW w _:=(ae aW w).alloc (.cells #[.bool c.1.aG,.string c.1.host,.int .i64 c.1.port,.int .i64 c.2] 105);have qE:=O (iv.keep ho id);clear hC ho;go_enter func148,ntmps148;go_wp2_with (first|((with_reducible refine dv 6 ?_);refine aJ rfl 24 (.tmp 1) rfl bo rfl _ _ (0,0) _ qE.o underlying24 rfl af ?_)|fail)
 go_ret;exact⟨rfl,iv⟩
theorem KT(base:Nat)(w:World)(B off:Nat)(cs:aX)(v:dm)(p:eB)(o:gy)(h:eO base w v p)(ha:gJ w B cs off v)(o8:base<=B) :
  aC 90 #[.pointer (some ⟨B,off,none⟩),.agg o.cells.toArray] w fun e w'=>e=.returned (.tuple #[])/\cX base w B cs off v {p with eH:=Ka o p.eH} w':=by
 unfold gy.cells;have oQ:Fr aW w (w.alloc (.cells #[.bool o.aG,.string o.host,.int .i64 o.port] 24)):=(ae aW w).alloc _;have hbo:=aB w (.cells #[.bool o.aG,.string o.host,.int .i64 o.port] 24);have h1:=h.dt oQ;have ha1:=ha.dt oQ;have uo:B<w.heap.size:=bg ha.eG;have xc:∀k,own v.cv k->k<w.heap.size:=fun k hk=>h.ja (Or.inr (Or.inr hk))
 have hd:=EB base 148 #[.pointer (some ⟨w.heap.size,0,none⟩)] (OL o) v.cv (p.eH.map lW) _ call148 (fun x hx u hu=>by
  obtain⟨c,_,rfl⟩:=cj.1 hx;exact Nt c o w.heap.size u (hu.keep hbo (fun hk=>by have:=xc _ hk;omega))) h1.eH
 rw[Hl,aj]at hd;have c2:=ha1.lU;have f2:=ha1.free (off+2);obtain⟨av,cv,hcv⟩:=h1.eH.form;rw[aj]at hcv;rw[hcv]at c2 hd;have wT:=O hcv;have HD:=O hd;have H1:=O h1;have HA1:=O ha1;have BI:=O oQ;have FP:¬v.jM B:=h.fa ha.eG ag;have B_:=O FP;clear h ha hbo h1 ha1 hd hcv oQ FP f2 xc;go_enter func90,ntmps90;go_wp2_with fail
 refine HD.o.mono ?_;rintro e w2⟨a2,c2',rfl,qE,dD,fu⟩;rw[<-wT.o]at dD fu;have HP:=O (cX.eH H1.o HA1.o o8 qE dD (fun k hk=>Or.inl (by rw[<-fu];exact hk)));have Vg:=dD.keep HA1.o.eG (fun hb=>B_.o (Or.inr (Or.inr hb)));have d2:w2.cell? ⟨B,off+2,none⟩=some (.slice av p.eH.length cv):=by
  have e:=HA1.o.c2;rw[wT.o]at e;simp[World.cell?,Vg,e]
 have e2:w2.frozen? ⟨B,off+2,none⟩=false:=by simp[World.frozen?,Vg]
 clear HD c2 qE dD fu Vg;go_wp2;go_end0;exact⟨rfl,HP.o.after BI.o⟩
theorem AH{P:Program}{ops:Array Oper}{rest:List Oper}{o:Oper}{a:Act}{w:World}{Q:Exit->Act->World->Prop}(hw:Region.wanted o (yielded ops a.tmps)=true)(ty:TypeId)(x:Operand)(ho:o.op=.load ty x)
  (g:Nat)(hx:a.eval x=.pointer (some ⟨g,0,none⟩))(t:TypeId)(cs:bS)(fr:Nat×Nat)(d:TypeDesc)(hg:w.heap[g]?=some (.cells cs t fr))
  (hu:P.underlying ty=some d)(hd:(match d with| .struct _| .array _ _=>true|_=>false)=true)(hi:(P.info? ty).map (·.size)=some cs.size)
  (h:wpList P ops Q rest (a.put o.dst (.agg cs)) w):wpList P ops Q (o :: rest) a w :=
 Go.BigFrame.wpList_want hw fun _ hK=>wp_load_row ty x ho g hx t cs fr d hg hu hd hi (hK _ _ h)
theorem xu{P:Program}{ops:Array Oper}{rest:List Oper}{o:Oper}{a:Act}{w:World}{Q:Exit->Act->World->Prop}(hg:o.guard=none)(t e:TypeId)(len:Nat)(parts:Array (Nat×Operand))(ho:o.op=.buildSlice t len parts)(dst:Option Tmp)(NH:o.dst=dst)
  (cells:bS)(ie:TypeInfo)(z:Value)(vs:List (Nat×Value))(he:(parts.map fun(i,x)=>(i,a.eval x)).toList=vs)
  (hu:P.underlying t=some (.slice e))(hie:P.info? e=some ie)(hz:ie.zero=some z)(Gs:¬len*ie.size>2^24)(pM:¬len*ie.size=0)
  (hf:Instr.fill (fun i=>some (i*ie.size,ie.size)) ((Array.range (len*ie.size)).map (z.cells[· %z.cells.size]!)) vs=some cells)(N:Nat)(hN:w.heap.size=N)
  (h:wpList P ops Q rest (a.put dst (.slice (some ⟨N,0,none⟩) len len)) (w.alloc (.cells cells e))):wpList P ops Q (o :: rest) a w:=by
 subst NH hN;exact wpList_buildSlice hg t e len parts ho cells ie z hu hie hz Gs pM (by rw[he];exact hf) h
theorem VQ:(prog.info? 33).map (fun i=>(i.zero,i.size,i.bytes))=some (some (.agg zOp),22,272):=af
theorem adO(o:jB)(ah:eZ)(nh ch:Nat):Instr.fill (fun i=>some (i*22,22)) ((Array.range (1*22)).map ((Value.agg zOp).cells[· %(Value.agg zOp).cells.size]!)) [(0,.agg #[.int .i64 o.what,.int .i64 o.aI.part,.bool o.aI.cQ.aG,.string o.aI.cQ.host,.int .i64 o.aI.cQ.port,.bool o.aI.o.aG,.string o.aI.o.host,.int .i64 o.aI.o.port,.string o.aI.path,.string o.aI.query,.string o.aI.method,.slice ah nh ch,.bool o.aI.fF,.string o.aI.body,.bool o.proxy,.string o.text,.string o.user,.string o.pass,.string o.bI,.int .i64 o.cert,.bool o.all,.int .i64 o.n])]=some #[.int .i64 o.what,.int .i64 o.aI.part,.bool o.aI.cQ.aG,.string o.aI.cQ.host,.int .i64 o.aI.cQ.port,.bool o.aI.o.aG,.string o.aI.o.host,.int .i64 o.aI.o.port,.string o.aI.path,.string o.aI.query,.string o.aI.method,.slice ah nh ch,.bool o.aI.fF,.string o.aI.body,.bool o.proxy,.string o.text,.string o.user,.string o.pass,.string o.bI,.int .i64 o.cert,.bool o.all,.int .i64 o.n]:=af
theorem adP(o:jB){n:Nat}(hh:o.aI.ef=.slice ah n ch):∀u∈o.cells,u.oneCell'=true:=by
 unfold jB.cells fX.cells;rw[hh];intro u hu;simp only[List.cons_append,List.nil_append,bu,cg,dS]at hu;rcases hu with rfl|rfl|rfl|rfl|rfl|rfl|rfl|rfl|rfl|rfl|rfl|rfl|rfl|rfl|rfl|rfl|rfl|rfl|rfl|rfl|rfl|rfl<;>rfl
def pZ(o:jB×List gU):Bool:=!nZ o.1.aI o.2||decide ((900:Int)<(o.1.aI.body.size:Int)+(o.1.text.size:Int)+(o.1.user.size:Int)+(o.1.pass.size:Int)+(o.1.bI.size:Int))
def D6(os:List (jB×List gU)):Bool:=decide (os.length<=30)&&!(os.any pZ)
theorem eb.det{k:Nat}{v:Value}{xs ys:cU}(h:eb k w v xs)(h':eb k w v ys):xs=ys:=by
 obtain⟨o1,h1⟩:=h;obtain⟨o2,h2⟩:=h';rcases h1 with ⟨a,c,hv,hs,_⟩|⟨bk,o,c,hv,_,_,_,h4⟩<;>rcases h2 with ⟨a',c',ub,QZ,_⟩|⟨bk',o',c',ub,_,_,_,h4'⟩
 ·rw[hs,QZ]
 ·rw[hv]at ub;injection ub with _ e _
  rw[hs];exact(dF.1 e.symm).symm
 ·rw[hv]at ub;injection ub with _ e _
  rw[QZ];exact dF.1 e
 ·rw[hv]at ub;injection ub with ea e _
  injection ea with ea
  injection ea with e1 e2
  subst e1 e2;refine List.ext_getElem e (fun j hj hj'=>?_);have lx:=(o1 _ (bL hj)).1;have ly:=(o2 _ (bL hj')).1;refine List.ext_getElem (lx.trans ly.symm) (fun i hi hi'=>?_);have q:=h4 j _ (List.getElem?_eq_getElem hj) i _ (List.getElem?_eq_getElem hi);have q':=h4' j _ (List.getElem?_eq_getElem hj') i _ (List.getElem?_eq_getElem hi');rw[q]at q';injection q'
theorem VX{QZ:List gU}(h:hs.map gU.cells=QZ.map gU.cells):hs=QZ:=by
 have:=aq (List.map Pd) h;rw[g_,g_]at this;have e:∀l:List gU,l.map (Pd ∘ gU.cells)=l:=fun l=>by
  induction l with
  |nil=>rfl
  |cons p l ih=>rw[cz,ih];rfl
 rw[e,e]at this;exact this
theorem jB.Rw{o o':jB}(h:o.cells=o'.cells):o=o':=by
 obtain⟨a,⟨b,⟨c1,c2,c3⟩,⟨d1,d2,d3⟩,e1,e2,e3,e4,e5,e6⟩,f,g,h1,h2,i,j,k,l⟩:=o;obtain⟨a',⟨b',⟨c1',c2',c3'⟩,⟨d1',d2',d3'⟩,e1',Z7,e3',e4',e5',e6'⟩,f',g',P',h2',i',j',k',l'⟩:=o';simp only[jB.cells,fX.cells,List.cons_append,List.nil_append,fA,Value.bool.injEq,Value.string.injEq,Value.int.injEq,true_and,iy]at h
 obtain⟨rfl,rfl,rfl,rfl,rfl,rfl,rfl,rfl,rfl,rfl,rfl,rfl,rfl,rfl,rfl,rfl,rfl,rfl,rfl,rfl,rfl,rfl⟩:=h;rfl
theorem VY{o o':jB×List gU}(h:sD w o.1 o.2)(h':sD w o'.1 o'.2)(e:o.1.cells=o'.1.cells):o=o':=by
 have e1:=jB.Rw e;have h2:=h'.aI.ef;rw[<-e1]at h2;have e2:=VX (h.aI.ef.det h2);exact Prod.ext e1 e2
theorem Rx(o:jB)(hs:List gU)(w:World)(h:sD w o hs) :
  aC 26 #[.agg o.cells.toArray] w fun e w'=>e=.returned (.bool (pZ (o,hs)))/\Fr aW w w':=by
 obtain⟨⟨hh,hl,nv,hz,hbd,_,_,_⟩,aiS,aiT,aiU,zcn,_,_,_⟩:=h;obtain⟨wb,jJ⟩:∃wb,wb=w.alloc (.cells o.cells.toArray 33):=⟨_,rfl⟩;have j6:Fr aW w wb:=by rw[jJ];exact(ae aW w).alloc _
 have lI:wb.heap[w.heap.size]?=some (.cells o.cells.toArray 33 (0,0)):=by rw[jJ];exact aB _ _
 obtain⟨ah,ch,gq⟩:=dN hh;rw[aj]at gq;have HC:=O (show∀U,Fr aW wb U->U.cell? ⟨w.heap.size,13,none⟩=some (.string o.aI.body)/\U.cell? ⟨w.heap.size,15,none⟩=some (.string o.text)/\U.cell? ⟨w.heap.size,16,none⟩=some (.string o.user)/\U.cell? ⟨w.heap.size,17,none⟩=some (.string o.pass)/\U.cell? ⟨w.heap.size,18,none⟩=some (.string o.bI)from fun U hU=>by
  obtain⟨a0,a1,a2,a3,a4,a5,a6,a7,a8,a9,jr,js,a12,jq,jt,i_,jD,jE,jF,jN,a20,a21⟩:=ed (hU.keep lI id) gq;exact⟨jq,i_,jD,jE,jF⟩)
 have Wn:=O (H9 o.aI hs wb (bG hh j6) hl nv hz);obtain⟨a0,a1,a2,a3,a4,a5,a6,a7,a8,a9,jr,js,a12,jq,jt,i_,jD,jE,jF,jN,a20,a21⟩:=ed lI gq;rw[jJ]at a1 a2 a3 a4 a5 a6 a7 a8 a9 jr js a12 jq;rw[dV gq]at jJ a1 a2 a3 a4 a5 a6 a7 a8 a9 jr js a12 jq ⊢;rw[zt gq]at Wn;have lZ:=O j6;have qC:=O jJ;clear hh hl nv hz j6 lI gq jJ a0 jt i_ jD jE jF jN a20 a21;cases hrf:nZ o.aI hs
 ·have HR:=O (show pZ (o,hs)=true by unfold pZ;simp only;rw[hrf];rfl);rw[hrf]at Wn;clear hrf;go_enter func26,ntmps26;go_wp2_with fail
  rw[<-qC.o];refine Wn.o.mono ?_;rintro e u⟨rfl,hf⟩;clear a1 a2 a3 a4 a5 a6 a7 a8 a9 jr js a12 jq;go_wp2;go_ret;exact⟨by rw[HR.o];rfl,lZ.o.trans hf⟩
 ·have HR:=O (show pZ (o,hs)=decide ((900:Int)<(o.aI.body.size:Int)+(o.text.size:Int)+(o.user.size:Int)+(o.pass.size:Int)+(o.bI.size:Int))by unfold pZ;simp only;rw[hrf];rfl);rw[hrf]at Wn;clear hrf;go_enter func26,ntmps26;go_wp2_with fail
  rw[<-qC.o];refine Wn.o.mono ?_;rintro e u⟨rfl,hf⟩;clear a1 a2 a3 a4 a5 a6 a7 a8 a9 jr js a12 jq;obtain⟨b13,b15,b16,b17,b18⟩:=HC.o u hf;go_wp2;go_ret;exact⟨by rw[HR.o];rfl,lZ.o.trans hf⟩
theorem Ln(v:Value)(os:List (jB×List gU))(w:World)(h:D3 w v os) :
  aC 8 #[v] w fun e w'=>e=.returned (.bool (D6 os))/\Fr aW w w':=by
 classical
 obtain⟨hv,hl,ha⟩:=h;obtain⟨av,cv,fT⟩:=hv.form;rw[aj]at fT;subst fT;obtain⟨p,hp⟩:∃p:aX->Bool,∀o∈os,p o.1.cells=pZ o:=⟨fun x=>decide (∃o∈os,o.1.cells=x/\pZ o=true),fun o ho=>by
  cases hq:pZ o
  ·refine bB (fun⟨o',D_,e,FX⟩=>?_);rw[VY (ha o' D_) (ha o ho) e,hq]at FX;cases FX
  ·exact bK ⟨o,ho,rfl,hq⟩⟩
 have Lz:=O (BN _ #[] p _ _ w call26 (fun x hx u hu=>by
  obtain⟨o,ho,rfl⟩:=cj.1 hx;rw[hp o ho];have h:=ha o ho;have h':sD u o.1 o.2:={h with aI:={h.aI with ef:=bG h.aI.ef hu}};simpa using Rx o.1 o.2 u h') hv)
 have iX:=O (show(os.map fun o=>o.1.cells).any p=os.any pZ by
  rw[List.any_map];clear Lz hv hl
  induction os with
  |nil=>rfl
  |cons o os ih =>
   rw[List.any_cons,List.any_cons,ih (fun x hx=>ha x (bO _ hx)) (fun x hx=>hp x (bO _ hx))];show(p o.1.cells||_)=_;rw[hp o (cR ..)])
 clear hp ha hv;by_cases h30:os.length<=30
 ·have hb:=O (show D6 os=!(os.any pZ)by unfold D6;rw[bK h30];rfl);have i30:(os.length:Int)<=30:=ab;have d30:decide ((os.length:Int)<=30)=true:=bK i30;go_enter func8,ntmps8;go_wp2_with fail
  refine Lz.o.mono ?_;rw[iX.o];rintro e u⟨rfl,hf⟩;go_wp2;go_ret;exact⟨ft hb.o.symm,hf⟩
 ·have hb:=O (show D6 os=false by unfold D6;rw[bB h30];rfl);have i30:¬(os.length:Int)<=30:=ab;have d30:decide ((os.length:Int)<=30)=false:=bB i30;go_enter func8,ntmps8;go_wp2;go_ret;exact⟨ft hb.o.symm,ae _ _⟩
theorem gL.aiW{o:jB}(h:sD w o hs)(hb:pZ (o,hs)=false):gL w o hs:=by
 obtain⟨⟨hh,hl,nv,hz,hbd,z1,z2,z3⟩,aiS,aiT,aiU,zcn,y1,y2,y3⟩:=h;unfold pZ at hb;simp only[eI,Bool.not_eq_false',decide_eq_false_iff_not]at hb;obtain⟨h1,h2⟩:=hb;have hq:=h1;unfold nZ at hq;simp only[cy,dx]at hq;obtain⟨hf,hq⟩:=hq;have b1:=Go.bounds_i64 z1;have b2:=Go.bounds_i64 z2;have b3:=Go.bounds_i64 z3;have b4:=Go.bounds_i64 y1;have b5:=Go.bounds_i64 y2;have b6:=Go.bounds_i64 y3;unfold Lm at hf
 simp only[cy,dx,Bool.not_eq_true',eT]at hf;exact⟨hh,⟨ab,ab,fun p hp=>by
  have:=hf.2 p hp;unfold Rv at this;rw[dx]at this;omega⟩,ab,ab,ab,ab,ab,ab,ab,ab,ab,ab,b2,b3,b1,b4,b5,b6⟩
