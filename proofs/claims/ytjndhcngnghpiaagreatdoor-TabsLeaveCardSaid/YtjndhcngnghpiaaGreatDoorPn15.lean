/- Lemmas for the law's walk. -/
import Derived.Test.YtjndhcngnghpiaaGreatDoorPn14
import Derived.Test.YtjndhcngnghpiaaGreatDoorPn23
import Derived.Great.BuildSlice
set_option maxRecDepth 100000
set_option maxHeartbeats 16000000
set_option linter.unusedSimpArgs false
namespace Go.Proofs.YtjndhcngnghpiaaGreatDoor
open Go.Proofs.Tryz
open Go.RowKit
variable {M fuel base ch B:Nat} {ps:List jn} {l:List ni} {gs:List (aP bE)} {cs:aX} {p q:eD} {w:World} {o:kl} {hs:List gY} {n:Int} {t:TypeId} {ah:eQ} {v:cU}
def Gg(a:fI bE):Prop:=a.aK.size<=3000/\a.bq.size<=3000/\a.cy.size<=3000/\a.dom.length<=3001
def Vo(g:aP bE):Prop:=Gg g.a/\g.user.size<=5000/\g.pass.size<=5000
theorem Ih(h:wL M ps){n v:Bs}(e:ke ps n=some v):v.length<=M:=by
 unfold ke at e;cases hf:ps.find? (fun p=>dH p.1 n)with
 |none=>rw[hf]at e;cases e
 |some p =>
  rw[hf]at e;obtain rfl:p.2=v:=by simpa using e
  exact(h p (List.mem_of_find?_eq_some hf)).2
theorem PV(h:wL M ps)(n:Bs):((ke ps n).getD []).length<=M:=by
 cases e:ke ps n with
 |none=>exact aQ _
 |some v=>exact Ih h e
theorem BH(c:UInt8):∀l:Bs,(dY c l).length<=l.length+1
 |[]=>by simp[dY]
 |x :: l=>by
  have ih:=BH c l;by_cases hx:x=c
  ·subst hx;rw[rj];simp;exact ih
  ·cases e:dY c l with
   |nil=>exact absurd e (wD c l)
   |cons p ps =>
    rw[nW hx e];rw[e]at ih;simp at ih ⊢; omega
theorem Rt(d:Bs):(G2 d).length<=d.length+1:=by
 unfold G2;rw[ai];exact aF (bT _ _) (BH 32 d)
theorem Ru{x:ni}{a:fI bE}(hx:x.Le 3000)(h:mU x=some a):Gg a:=by
 have hp:=hx.yX;unfold mU at h;split at h
 ·cases h
 rename_i aK hr;have h1:=Ih hp hr;split at h
 ·cases h;exact⟨h1,aQ _,aQ _,aQ _⟩
 split at h
 ·cases h
 split at h
 ·cases h
 split at h
 ·cases h
 rename_i bq hn;have h2:=Ih hp hn;split at h
 ·cases h
 ·cases h;refine⟨h1,h2,PV hp lZ,?_⟩;show((G2 ((ke x.params qI).getD [])).map bA).length<=3001;rw[ai];have:=Rt ((ke x.params qI).getD []);have:=PV hp qI;omega
theorem Vp:Gg O8:=⟨aQ _,aQ _,aQ _,aQ _⟩
theorem Vq(h:∀x∈l,x.Le 3000):Gg (i_ l):=by
 unfold i_;rcases PT l O8 with e|⟨x,hx,e⟩
 ·rw[e];exact Vp
 ·exact Ru (h x hx) e
theorem PW{r:Bs}(h:mq r=.ok l):Gg (i_ l):=by
 refine Vq (fun x hx=>?_);have h1:=BF h x hx;have h2:=BG h;exact⟨aF h1.scheme h2,aF h1.token h2,fun p hp=>⟨aF (h1.yX p hp).1 h2,aF (h1.yX p hp).2 h2⟩⟩
theorem Lc{g x:aP bE}(h:x∈uZ gs g):x∈gs\/x=g:=by
 unfold uZ at h;have h:=ez h;rcases bQ.1 h with h|h
 ·exact Or.inl (fc.1 h).1
 ·exact Or.inr (cZ.1 h)
theorem Ld{ws:List (bI bE)}{m x:bI bE}(h:x∈zC ws m):x∈ws\/x=m:=by
 unfold zC at h;have h:=ez h;rcases bQ.1 h with h|h
 ·exact Or.inl ((re _ _ _).subset h)
 ·exact Or.inr (cZ.1 h)
theorem AU{o:gq}{proxy:Bool}:∀ {ws:List (bI bE)} {g:bI bE},(ma o proxy ws).2=some g->g∈ws
 |[],_,h=>by cases h
 |x :: l,g,h=>by
  rw[ma]at h;cases hx:AL o proxy x
  ·rw[hx]at h;simp only[cJ,eV]at h;exact bP _ (AU h)
  ·rw[hx]at h;simp only[eb]at h;cases h;exact cX
theorem Lf{o:gq}{proxy:Bool}{path:aj}{P:aP bE->Prop}(hP:∀g,P g->P g.used)(h:∀x∈gs,P x) :
  (∀x∈(u0 gs o proxy path).1,P x)/\∀g,(u0 gs o proxy path).2=.ok g->P g:=by
 unfold u0;split
 ·split
  ·rename_i g hg;have hl:∀x∈gs.take (tL gs o proxy path).toNat++gs.drop ((tL gs o proxy path).toNat+1),P x:=fun x hx=>by
    rcases bQ.1 hx with hx|hx
    ·exact h x (ey hx)
    ·exact h x (ez hx)
   have XF:P g.used:=hP g (h g (cj hg));simp only;split
   ·exact⟨hl,fun g h=>by cases h⟩
   ·refine⟨fun x hx=>?_,fun g h=>by cases h;exact XF⟩;rcases bQ.1 hx with hx|hx
    ·exact hl x hx
    ·rw[cZ]at hx;rw[hx];exact XF
  ·exact⟨h,fun g h=>by cases h⟩
 ·exact⟨h,fun g h=>by cases h⟩
structure rL (p:eD):Prop where
 bU:∀g∈p.bU,Vo g
 waits:∀x∈p.waits,Gg x.a
theorem rL.no:rL yi:=⟨fun _ h=>(by cases h),fun _ h=>(by cases h)⟩
theorem rL.wK{p:eD}(h:rL p)(now:Int)(o:kl)(hu:o.user.size<=5000)(hp:o.pass.size<=5000):rL (wK p now o).1:=by
 obtain⟨hg,hw⟩:=h;unfold Go.Proofs.YtjndhcngnghpiaaGreatDoor.wK;by_cases h1:o.what=1
 ·rw[aA h1];have hU:=(Lf (gs:=p.bU) (o:=o.o) (proxy:=o.proxy) (path:=o.path) (P:=Vo) (fun _ h=>h) hg).1;unfold lG;split
  ·rename_i gs e he;rw[he]at hU;exact⟨hU,hw⟩
  ·rename_i gs g he;rw[he]at hU;split
   ·exact⟨fun x hx=>hU x (fc.1 hx).1,hw⟩
   ·exact⟨hU,hw⟩
 rw[ar h1];by_cases h2:o.what=2
 ·rw[aA h2];unfold jw;split
  ·exact⟨hg,hw⟩
  ·rename_i l hl;have hb:=PW hl;split
   ·split
    ·rename_i g hs;refine⟨fun x hx=>?_,hw⟩;rcases Lc hx with hx|rfl
     ·exact hg x hx
     ·unfold DS at hs;split at hs
      ·rename_i g' XF;split at hs
       ·cases hs;have:=hg g' (List.mem_of_find?_eq_some XF);exact⟨hb,this.2⟩
       ·cases hs
      ·cases hs
    ·refine⟨fun x hx=>hg x (fc.1 hx).1,fun x hx=>?_⟩;rcases Ld hx with hx|rfl
     ·exact hw x hx
     ·exact hb
   ·exact⟨hg,hw⟩
 rw[ar h2];by_cases h3:o.what=3
 ·rw[aA h3];have hs:=re o.o o.proxy p.waits;unfold lh;split
  ·rename_i ws e;rw[e]at hs;exact⟨hg,fun x hx=>hw x (hs.subset hx)⟩
  ·rename_i ws x e;have hx:=AU (o:=o.o) (proxy:=o.proxy) (ws:=p.waits) (g:=x) (by rw[e]);rw[e]at hs;refine⟨fun y hy=>?_,fun x hx=>hw x (hs.subset hx)⟩;rcases Lc hy with hy|rfl
   ·exact hg y hy
   ·exact⟨hw x hx,hu,hp⟩
 rw[ar h3];by_cases h4:o.what=4
 ·rw[aA h4];exact⟨hg,hw⟩
 rw[ar h4];by_cases h5:o.what=5
 ·rw[aA h5];unfold lj;split
  ·exact⟨hg,hw⟩
  ·split
   ·exact⟨hg,hw⟩
   ·exact⟨hg,hw⟩
 rw[ar h5];by_cases h6:o.what=6
 ·rw[aA h6];exact⟨hg,hw⟩
 rw[ar h6];by_cases h7:o.what=7
 ·rw[aA h7];unfold oN;split
  ·exact⟨hg,hw⟩
  ·exact⟨hg,hw⟩
 rw[ar h7];unfold rK;split
 ·exact rL.no
 ·have T_:rL (vT p o.o):=⟨fun x hx=>hg x (fc.1 hx).1,fun x hx=>hw x (fc.1 hx).1⟩;split
  ·exact⟨T_.bU,T_.waits⟩
  ·exact T_
def DY(w:dN):Prop:=∀k,rL (w.part k)
theorem DY.new:DY AQ:=fun _=>rL.no
theorem DY.mi{w:dN}(h:DY w)(o:kl)(hu:o.user.size<=5000)(hp:o.pass.size<=5000):DY (mi w o).1:=by
 cases hr:o.right
 ·rw[Ic hr];exact h
 ·by_cases hw:o.what=10
  ·rw[DU hr hw];split
   ·exact h
   ·exact h
  ·rw[DT hr hw];intro k;by_cases hk:k=o.part.toNat
   ·subst hk;rw[dN.NG];exact(h _).wK _ _ hu hp
   ·rw[dN.Ib _ _ hk];exact h k
theorem ll(o:jz)(hs:List gY)(w:World)(h:gB w o hs) :
  aB 35 #[.agg o.cells.toArray] w fun e w'=>e=.returned (.bool (o.dS hs).right)/\Fr aS w w':=by
 have gG:=O (show(o.dS hs).right=(decide (1<=o.what)&&(decide (o.what<=10)&&(rM o.aJ.part o.aJ.method hs&&(nN o.aJ.cW&&(nN o.aJ.o&&(decide (o.aJ.path.size<=200)&&(o.aJ.path.data.toList.head?==some 47&&decide (o.text.size<=3000))))))))from rfl);generalize (o.dS hs).right=res at gG ⊢;obtain⟨ah,ch,gD⟩:=dI h.en;rw[ai]at gD
 have Hh:o.cells=[.int .i64 o.what,.int .i64 o.aJ.part,.bool o.aJ.cW.aE,.string o.aJ.cW.host,.int .i64 o.aJ.cW.port,.bool o.aJ.o.aE,.string o.aJ.o.host,.int .i64 o.aJ.o.port,.string o.aJ.path,.string o.aJ.query,.string o.aJ.method,.slice ah hs.length ch,.bool o.aJ.fN,.string o.aJ.body,.bool o.proxy,.string o.text,.string o.user,.string o.pass,.string o.bK,.int .i64 o.cert,.bool o.all,.int .i64 o.n]:=by unfold jz.cells gl.cells;rw[gD];rfl
 have ux:o.aJ.cells=[.int .i64 o.aJ.part,.bool o.aJ.cW.aE,.string o.aJ.cW.host,.int .i64 o.aJ.cW.port,.bool o.aJ.o.aE,.string o.aJ.o.host,.int .i64 o.aJ.o.port,.string o.aJ.path,.string o.aJ.query,.string o.aJ.method,.slice ah hs.length ch,.bool o.aJ.fN,.string o.aJ.body]:=by unfold gl.cells;rw[gD]
 obtain⟨w2,eA⟩:∃w2,w2=(w.alloc (.cells #[.int .i64 o.what,.int .i64 o.aJ.part,.bool o.aJ.cW.aE,.string o.aJ.cW.host,.int .i64 o.aJ.cW.port,.bool o.aJ.o.aE,.string o.aJ.o.host,.int .i64 o.aJ.o.port,.string o.aJ.path,.string o.aJ.query,.string o.aJ.method,.slice ah hs.length ch,.bool o.aJ.fN,.string o.aJ.body,.bool o.proxy,.string o.text,.string o.user,.string o.pass,.string o.bK,.int .i64 o.cert,.bool o.all,.int .i64 o.n] 33)).alloc (.cells #[.int .i64 o.aJ.part,.bool o.aJ.cW.aE,.string o.aJ.cW.host,.int .i64 o.aJ.cW.port,.bool o.aJ.o.aE,.string o.aJ.o.host,.int .i64 o.aJ.o.port,.string o.aJ.path,.string o.aJ.query,.string o.aJ.method,.slice ah hs.length ch,.bool o.aJ.fN,.string o.aJ.body] 29):=⟨_,rfl⟩
 have dz:Fr aS w w2:=by rw[eA];exact((ae aS w).alloc _).alloc _
 have k1:w2.heap[w.heap.size]?=some (.cells #[.int .i64 o.what,.int .i64 o.aJ.part,.bool o.aJ.cW.aE,.string o.aJ.cW.host,.int .i64 o.aJ.cW.port,.bool o.aJ.o.aE,.string o.aJ.o.host,.int .i64 o.aJ.o.port,.string o.aJ.path,.string o.aJ.query,.string o.aJ.method,.slice ah hs.length ch,.bool o.aJ.fN,.string o.aJ.body,.bool o.proxy,.string o.text,.string o.user,.string o.pass,.string o.bK,.int .i64 o.cert,.bool o.all,.int .i64 o.n] 33 (0,0)):=by rw[eA];exact((ae aS _).alloc _).keep (aC _ _) id
 have k2:w2.heap[w.heap.size+1]?=some (.cells #[.int .i64 o.aJ.part,.bool o.aJ.cW.aE,.string o.aJ.cW.host,.int .i64 o.aJ.cW.port,.bool o.aJ.o.aE,.string o.aJ.o.host,.int .i64 o.aJ.o.port,.string o.aJ.path,.string o.aJ.query,.string o.aJ.method,.slice ah hs.length ch,.bool o.aJ.fN,.string o.aJ.body] 29 (0,0)):=by
  have h:=aC (w.alloc (.cells #[.int .i64 o.what,.int .i64 o.aJ.part,.bool o.aJ.cW.aE,.string o.aJ.cW.host,.int .i64 o.aJ.cW.port,.bool o.aJ.o.aE,.string o.aJ.o.host,.int .i64 o.aJ.o.port,.string o.aJ.path,.string o.aJ.query,.string o.aJ.method,.slice ah hs.length ch,.bool o.aJ.fN,.string o.aJ.body,.bool o.proxy,.string o.text,.string o.user,.string o.pass,.string o.bK,.int .i64 o.cert,.bool o.all,.int .i64 o.n] 33)) (.cells #[.int .i64 o.aJ.part,.bool o.aJ.cW.aE,.string o.aJ.cW.host,.int .i64 o.aJ.cW.port,.bool o.aJ.o.aE,.string o.aJ.o.host,.int .i64 o.aJ.o.port,.string o.aJ.path,.string o.aJ.query,.string o.aJ.method,.slice ah hs.length ch,.bool o.aJ.fN,.string o.aJ.body] 29)
  rw[bN]at h;rw[eA];exact h
 have HC:=O (show∀U,Fr aS w2 U->U.cell? ⟨w.heap.size,0,none⟩=some (.int .i64 o.what)/\U.cell? ⟨w.heap.size,15,none⟩=some (.string o.text)/\U.cell? ⟨w.heap.size+1,0,none⟩=some (.int .i64 o.aJ.part)/\U.cell? ⟨w.heap.size+1,1,none⟩=some (.bool o.aJ.cW.aE)/\U.cell? ⟨w.heap.size+1,2,none⟩=some (.string o.aJ.cW.host)/\U.cell? ⟨w.heap.size+1,3,none⟩=some (.int .i64 o.aJ.cW.port)/\U.cell? ⟨w.heap.size+1,4,none⟩=some (.bool o.aJ.o.aE)/\U.cell? ⟨w.heap.size+1,5,none⟩=some (.string o.aJ.o.host)/\U.cell? ⟨w.heap.size+1,6,none⟩=some (.int .i64 o.aJ.o.port)/\U.cell? ⟨w.heap.size+1,7,none⟩=some (.string o.aJ.path)/\U.cell? ⟨w.heap.size+1,8,none⟩=some (.string o.aJ.query)/\U.cell? ⟨w.heap.size+1,9,none⟩=some (.string o.aJ.method)/\U.cell? ⟨w.heap.size+1,10,none⟩=some (.slice ah hs.length ch)/\U.cell? ⟨w.heap.size+1,11,none⟩=some (.bool o.aJ.fN)/\U.cell? ⟨w.heap.size+1,12,none⟩=some (.string o.aJ.body)from fun U hU=>by
  have j1:=hU.keep k1 id;have j2:=hU.keep k2 id;simp[World.cell?,j1,j2])
 have C1:=O (show∀U,Fr aS w2 U->aB 64 #[.agg #[.int .i64 o.aJ.part,.bool o.aJ.cW.aE,.string o.aJ.cW.host,.int .i64 o.aJ.cW.port,.bool o.aJ.o.aE,.string o.aJ.o.host,.int .i64 o.aJ.o.port,.string o.aJ.path,.string o.aJ.query,.string o.aJ.method,.slice ah hs.length ch,.bool o.aJ.fN,.string o.aJ.body]] U fun e w'=>e=.returned (.bool (rM o.aJ.part o.aJ.method hs))/\Fr aS U w' from fun U hU=>by
  have:=NM o.aJ hs U (bh h.en (dz.trans hU)) h.aJ;rw[ux]at this;exact this)
 have C2:=O (show∀U,aB 65 #[.agg #[.bool o.aJ.cW.aE,.string o.aJ.cW.host,.int .i64 o.aJ.cW.port]] U fun e w'=>e=.returned (.bool (nN o.aJ.cW))/\Fr aS U w' from fun U=>FT o.aJ.cW U h.cW);have C3:=O (show∀U,aB 65 #[.agg #[.bool o.aJ.o.aE,.string o.aJ.o.host,.int .i64 o.aJ.o.port]] U fun e w'=>e=.returned (.bool (nN o.aJ.o))/\Fr aS U w' from fun U=>FT o.aJ.o U h.ori);have hpz:=h.path;have Xn:=h.text
 have nD:=O eA;have fY:=O dz;rw[Hh];clear h dz k1 k2 Hh ux gD;obtain⟨a0,jd,b0,b1,b2,b3,b4,b5,b6,b7,b8,b9,Zw,Zx,Zy⟩:=HC.o w2 (ae _ _);rw[eA]at a0 jd b0 b1 b2 b3 b4 b5 b6 b7 b8 b9 Zw Zx Zy;clear eA;by_cases h1:o.what>=1
 rotate_left
 ·have HR:=O (show res=false by rw[gG.o,bD (show¬1<=o.what from ab)];rfl);clear gG;go_enter func35,ntmps35;go_wp2;go_ret;exact⟨by rw[HR.o];rfl,by rw[<-nD.o];exact fY.o⟩
 by_cases h2:o.what<=10
 rotate_left
 ·have HR:=O (show res=false by rw[gG.o,bD h2,kn,Bool.and_false]);clear gG;go_enter func35,ntmps35;go_wp2;go_ret;exact⟨by rw[HR.o];rfl,by rw[<-nD.o];exact fY.o⟩
 have NC:=O (show res=(rM o.aJ.part o.aJ.method hs&&(nN o.aJ.cW&&(nN o.aJ.o&&(decide (o.aJ.path.size<=200)&&(o.aJ.path.data.toList.head?==some 47&&decide (o.text.size<=3000))))))by rw[gG.o,bL h2,bL (show 1<=o.what from ab)];rfl);clear gG;go_enter func35,ntmps35;go_wp2_with fail
 rw[<-nD.o];refine(C1.o w2 (ae _ _)).mono ?_;rintro e u1⟨rfl,tY⟩;cases e1:rM o.aJ.part o.aJ.method hs
 ·have HR:=O (show res=false by rw[NC.o,e1];rfl);clear NC e1;go_wp2;go_ret;exact⟨by rw[HR.o];rfl,fY.o.trans tY⟩
 have oX:=O (show res=(nN o.aJ.cW&&(nN o.aJ.o&&(decide (o.aJ.path.size<=200)&&(o.aJ.path.data.toList.head?==some 47&&decide (o.text.size<=3000)))))by rw[NC.o,e1];rfl);have Ii:=O tY;clear NC e1 tY a0 jd b0 b1 b2 b3 b4 b5 b6 b7 b8 b9 Zw Zx Zy;obtain⟨a0,jd,b0,b1,b2,b3,b4,b5,b6,b7,b8,b9,Zw,Zx,Zy⟩:=HC.o u1 Ii.o;go_wp2_with fail
 refine(C2.o u1).mono ?_;rintro e u2⟨rfl,nj⟩;cases e1:nN o.aJ.cW
 ·have HR:=O (show res=false by rw[oX.o,e1];rfl);clear oX e1;go_wp2;go_ret;exact⟨by rw[HR.o];rfl,fY.o.trans (Ii.o.trans nj)⟩
 have Pk:=O (show res=(nN o.aJ.o&&(decide (o.aJ.path.size<=200)&&(o.aJ.path.data.toList.head?==some 47&&decide (o.text.size<=3000))))by rw[oX.o,e1];rfl);have tu:=O (Ii.o.trans nj);clear oX e1 nj a0 jd b0 b1 b2 b3 b4 b5 b6 b7 b8 b9 Zw Zx Zy;obtain⟨a0,jd,b0,b1,b2,b3,b4,b5,b6,b7,b8,b9,Zw,Zx,Zy⟩:=HC.o u2 tu.o;go_wp2_with fail
 refine(C3.o u2).mono ?_;rintro e u3⟨rfl,zu⟩;cases e1:nN o.aJ.o
 ·have HR:=O (show res=false by rw[Pk.o,e1];rfl);clear Pk e1;go_wp2;go_ret;exact⟨by rw[HR.o];rfl,fY.o.trans (tu.o.trans zu)⟩
 have Vs:=O (show res=(decide (o.aJ.path.size<=200)&&(o.aJ.path.data.toList.head?==some 47&&decide (o.text.size<=3000)))by rw[Pk.o,e1];rfl);have XG:=O (tu.o.trans zu);clear Pk e1 zu a0 jd b0 b1 b2 b3 b4 b5 b6 b7 b8 b9 Zw Zx Zy;obtain⟨a0,jd,b0,b1,b2,b3,b4,b5,b6,b7,b8,b9,Zw,Zx,Zy⟩:=HC.o u3 XG.o;have HFZ:=O (fY.o.trans XG.o);by_cases h3:(o.aJ.path.size:Int)<=200
 rotate_left
 ·have HR:=O (show res=false by rw[Vs.o,bD (show¬o.aJ.path.size<=200 from ab)];rfl);clear Vs;go_wp2;go_ret;exact⟨by rw[HR.o];rfl,HFZ.o⟩
 have Tj:=O (show res=(o.aJ.path.data.toList.head?==some 47&&decide (o.text.size<=3000))by rw[Vs.o,bL (show o.aJ.path.size<=200 from ab)];rfl);clear Vs;by_cases h4:(o.aJ.path.size:Int)>0
 rotate_left
 ·have HR:=O (show res=false by
   have e:o.aJ.path.data.toList=[]:=cg (by have:o.aJ.path.data.toList.length=o.aJ.path.size:=by simp
                                           omega)
   rw[Tj.o,e];rfl)
  clear Tj;go_wp2;go_ret;exact⟨by rw[HR.o];rfl,HFZ.o⟩
 have hp0:0<o.aJ.path.size:=ab;have ain:=byte_at o.aJ.path 0 hp0;have hhd:o.aJ.path.data.toList.head?=some o.aJ.path[0]:=by rw[List.head?_eq_getElem?];exact ain
 have XH:=O (show res=(decide (o.aJ.path[0]=47)&&decide (o.text.size<=3000))by
  rw[Tj.o,hhd];by_cases q:o.aJ.path[0]=47
  ·rw[q];rfl
  ·rw[bD q,aL.2 (fun e=>q (jR e))])
 clear Tj hhd ain;by_cases q:o.aJ.path[0]=47
 rotate_left
 ·have HR:=O (show res=false by rw[XH.o,bD q];rfl);have q2:((o.aJ.path[0].toNat:Int)==47)=false:=by
   rw[aL];intro e;exact q (iK.1 (by show o.aJ.path[0].toNat=47;omega))
  clear XH;go_wp2;go_ret;exact⟨by rw[HR.o];rfl,HFZ.o⟩
 have HR:=O (show res=decide (o.text.size<=3000)by rw[XH.o,bL q];rfl);have q2:((o.aJ.path[0].toNat:Int)==47)=true:=by rw[q];rfl
 clear XH q;go_wp2;go_ret;exact⟨by show Ending.returned (.bool (decide ((o.text.size:Int)<=3000)))=_;exact fy (by rw[HR.o];exact decide_eq_decide.2 ⟨fun h=>ab,fun h=>ab⟩),HFZ.o⟩
def uE(c:Nat)(P F:eD):eD:=⟨if c.testBit 0 then F.bU else P.bU,if c.testBit 0 then F.waits else P.waits,if c.testBit 1 then F.book else P.book,if c.testBit 2 then F.eB else P.eB⟩
def mE(w f:dN)(part:Int)(c:Nat):dN :=
 if 0<=part/\part<4 then{part:=fun i=>if i=part.toNat then uE c (w.part i) (f.part i)else w.part i,now:=if c.testBit 3 then f.now else w.now}else w
open Go.ChangeShapes Go.WideShapes Go.ChangeAt Go.RowKit Go.Deep
variable {H : Type} {enc : TypeId × Value → H} {W : World}
structure sM (w:World) (o:jz) (hs:List gY):Prop where
 aJ:WO w o.aJ hs
 text:o.text.size<=140737488351232
 user:o.user.size<=140737488351232
 pass:o.pass.size<=140737488351232
 bK:o.bK.size<=140737488351232
 what:(Lit.int .i64 o.what).wf=true
 cert:(Lit.int .i64 o.cert).wf=true
 n:(Lit.int .i64 o.n).wf=true
abbrev El(w:World)(v:Value)(os:List (jz×List gY)):Prop:=dV 22 w v (os.map fun o=>o.1.cells)/\os.length<=140737488355328/\∀o∈os,sM w o.1 o.2
theorem L_:prog.cellsOf 33=22:=af
theorem Ab:prog.cellsOf 31=2:=af
theorem aj_{α:Type}{l:List α}(h:l.length=22):∃a0 a1 a2 a3 a4 a5 a6 a7 a8 a9 jA jB a12 jx jC jd jK jL jM jU a20 a21,l=[a0,a1,a2,a3,a4,a5,a6,a7,a8,a9,jA,jB,a12,jx,jC,jd,jK,jL,jM,jU,a20,a21]:=by
 match l,h with
 |[a0,a1,a2,a3,a4,a5,a6,a7,a8,a9,jA,jB,a12,jx,jC,jd,jK,jL,jM,jU,a20,a21],_=>exact⟨a0,a1,a2,a3,a4,a5,a6,a7,a8,a9,jA,jB,a12,jx,jC,jd,jK,jL,jM,jU,a20,a21,rfl⟩
theorem OD{x:DataW H×List MemPlace}(h:DataW.trod enc prog W 0 (fun _=>true) true fuel 31 cs=some x) :
  ∃u p:aj,cs=[.string u,.string p]/\(oV prog 31 x.1->u.size<=reachBytes/\p.size<=reachBytes):=by
 obtain⟨hl,n,hf⟩:=nS underlying31 h;rw[Ab]at hl;obtain⟨c0,c1,rfl⟩:=aj7 hl;obtain⟨y0,h0,l0⟩:=hf 0 9 0 _ rfl iJ;obtain⟨y1,h1,l1⟩:=hf 1 9 1 _ rfl iJ;simp only[List.drop,List.take]at h0 h1;obtain⟨u,eu,wu⟩:=fo underlying9 h0;obtain⟨q,eq,wq⟩:=fo underlying9 h1;simp only[fD,iE]at eu eq;subst eu eq;exact⟨u,q,rfl,fun hL=>⟨wu (l0 hL),wq (l1 hL)⟩⟩
theorem Qg{x:DataW H×List MemPlace}(h:DataW.trod enc prog W 0 (fun _=>true) true fuel 33 cs=some x) :
  ∃b:jz×List gY,cs=b.1.cells/\cs.length=22/\(∀u∈cs,u.oneCell'=true)/\(oV prog 33 x.1->sM W b.1 b.2):=by
 obtain⟨hl,n,hf⟩:=nS underlying33 h;rw[L_]at hl;obtain⟨c0,c1,c2,c3,c4,c5,c6,c7,c8,c9,Gd,Tg,c12,c13,c14,c15,c16,c17,c18,c19,c20,c21,rfl⟩:=aj_ hl;obtain⟨y0,h0,l0⟩:=hf 0 3 0 _ rfl pJ;obtain⟨y1,h1,l1⟩:=hf 1 29 1 _ rfl GL;obtain⟨y2,h2,l2⟩:=hf 2 4 14 _ rfl uH;obtain⟨y3,h3,l3⟩:=hf 3 9 15 _ rfl iJ;obtain⟨y4,h4,l4⟩:=hf 4 31 16 _ rfl Ab;obtain⟨y5,h5,l5⟩:=hf 5 9 18 _ rfl iJ
 obtain⟨y6,h6,l6⟩:=hf 6 3 19 _ rfl pJ;obtain⟨y7,h7,l7⟩:=hf 7 4 20 _ rfl uH;obtain⟨y8,h8,l8⟩:=hf 8 3 21 _ rfl pJ;simp only[List.drop,List.take]at h0 h1 h2 h3 h4 h5 h6 h7 h8;obtain⟨b0,e0,w0⟩:=ku underlying3 h0;obtain⟨r,⟨e1,_⟩,_,o1,s1⟩:=WQ h1;obtain⟨b2,e2⟩:=nG underlying4 h2;obtain⟨b3,e3,w3⟩:=fo underlying9 h3;obtain⟨u4,p4,e4,s4⟩:=OD h4;obtain⟨b5,e5,w5⟩:=fo underlying9 h5
 obtain⟨b6,e6,w6⟩:=ku underlying3 h6;obtain⟨b7,e7⟩:=nG underlying4 h7;obtain⟨b8,e8,w8⟩:=ku underlying3 h8;rw[e1]at o1;unfold gl.cells at e1;simp only[fD,iE]at e0 e1 e2 e3 e4 e5 e6 e7 e8;obtain⟨rfl,rfl,rfl,rfl,rfl,rfl,rfl,rfl,rfl,rfl,rfl,rfl,rfl⟩:=e1;obtain⟨rfl,rfl⟩:=e4;subst e0 e2 e3 e5 e6 e7 e8;have dX:∀u∈(⟨b0,r.1,b2,b3,u4,p4,b5,b6,b7,b8⟩:jz).cells,u.oneCell'=true:=by
  intro u hu;unfold jz.cells at hu;rcases bB.1 hu with rfl|hu
  ·rfl
  rcases bQ.1 hu with hu|hu
  ·exact o1 u hu
  ·simp only[bB,cz,dU]at hu;rcases hu with rfl|rfl|rfl|rfl|rfl|rfl|rfl|rfl<;>rfl
 refine⟨(⟨b0,r.1,b2,b3,u4,p4,b5,b6,b7,b8⟩,r.2),rfl,rfl,dX,fun hL=>?_⟩;have q4:=s4 (l4 hL);exact⟨s1 (l1 hL),w3 (l3 hL),q4.1,q4.2,w5 (l5 hL),w0,w6,w8⟩
instance:Inhabited (jz×List gY):=⟨(⟨0,⟨0,⟨false,.empty,0⟩,⟨false,.empty,0⟩,.empty,.empty,.empty,.nilIface,false,.empty⟩,false,.empty,.empty,.empty,.empty,0,false,0⟩,[])⟩
theorem OE{v:Value}{d:DataW H}{p:List MemPlace}(hv:Value.okWide prog W .any base 33 v)(h:DataW.Trod enc prog W 0 (fun _=>true) true 33 v d p)(hL:oV prog 33 d) :
  ∃(o:jz) (hs:List gY),v=.agg o.cells.toArray/\sM W o hs:=by
 obtain⟨cs,rfl,_⟩:=okWide_struct underlying33 hv;obtain⟨fuel,hf⟩:=h;simp only[Value.cells]at hf;obtain⟨b,e,_,_,hs⟩:=Qg hf;refine⟨b.1,b.2,?_,hs hL⟩
 congr 1
 apply Array.ext';rw[e]
theorem En(base:Nat)(w:World)(B:Nat)(pv:Nat->cU)(x:dN)(h:cE base w B pv x) :
  aB 22 #[.pointer (some ⟨B,0,none⟩)] w fun e w'=>e=.returned (.int .i64 x.now)/\w'=w:=by
 have c:w.cell? ⟨B,12,none⟩=some (.int .i64 x.now):=by
  simp only[World.cell?,h.eJ];rfl
 clear h;go_enter func22,ntmps22;go_wp2;go_ret;exact⟨rfl,rfl⟩
def mC(p:eD):Prop:=∀x∈p.waits,x.path.size<=5000
theorem mC.no:mC yi:=fun _ h=>by cases h
theorem mC.same(h:mC p)(e:q.waits=p.waits):mC q:=by unfold mC;rw[e];exact h
theorem mC.sub(h:mC p)(e:∀x∈q.waits,x∈p.waits):mC q:=fun x hx=>h x (e x hx)
theorem mC.wK{p:eD}(h:mC p)(now:Int)(o:kl)(hp:o.path.size<=5000):mC (wK p now o).1:=by
 unfold Go.Proofs.YtjndhcngnghpiaaGreatDoor.wK;by_cases h1:o.what=1
 ·rw[aA h1];unfold lG;split
  ·exact h.same rfl
  ·split
   ·exact h.same rfl
   ·exact h.same rfl
 rw[ar h1];by_cases h2:o.what=2
 ·rw[aA h2];unfold jw;split
  ·exact h
  ·split
   ·split
    ·exact h.same rfl
    ·intro x hx;rcases Ld hx with hx|rfl
     ·exact h x hx
     ·exact hp
   ·exact h
 rw[ar h2];by_cases h3:o.what=3
 ·rw[aA h3];have hs:=re o.o o.proxy p.waits;unfold lh;split
  ·rename_i ws e;rw[e]at hs;exact h.sub (fun x hx=>hs.subset hx)
  ·rename_i ws x e;rw[e]at hs;exact h.sub (fun x hx=>hs.subset hx)
 rw[ar h3];by_cases h4:o.what=4
 ·rw[aA h4];exact h
 rw[ar h4];by_cases h5:o.what=5
 ·rw[aA h5];unfold lj;split
  ·exact h
  ·split
   ·exact h.same rfl
   ·exact h.same rfl
 rw[ar h5];by_cases h6:o.what=6
 ·rw[aA h6];exact h
 rw[ar h6];by_cases h7:o.what=7
 ·rw[aA h7];unfold oN;split
  ·exact h
  ·exact h.same rfl
 rw[ar h7];unfold rK;split
 ·exact mC.no
 ·split
  ·exact h.sub (fun x hx=>(fc.1 hx).1)
  ·exact h.sub (fun x hx=>(fc.1 hx).1)
def DZ(w:dN):Prop:=∀i,mC (w.part i)
theorem DZ.new:DZ AQ:=fun _=>mC.no
theorem DZ.mi{w:dN}(h:DZ w)(o:kl)(hp:o.path.size<=5000):DZ (mi w o).1:=by
 unfold Go.Proofs.YtjndhcngnghpiaaGreatDoor.mi;split
 ·split
  ·split
   ·exact h
   ·exact h
  ·intro i;show mC ((w.set _ _).part i);unfold dN.set;simp only;split
   ·exact(h _).wK _ _ hp
   ·exact h i
 ·exact h
def bR:bS:= #[.int .i64 0,.string ⟨#[]⟩,.int .i64 0]
theorem gB.gT{o:jz}(h:gB w o hs):∃ah ch,o.aJ.en=.slice ah hs.length ch:=by
 obtain⟨a,c,e⟩:=dI h.en;rw[ai]at e;exact⟨a,c,e⟩
section
variable {base : Nat} {w w' : World} {B o : Nat} {cs : List Value} {v : cU} {p : eD}
theorem eP.fg(h:eP base w v p){n:Nat}{old:bS}(hn:w.heap[n]?=some (.cells old t (0,0)))(ht:t≠118/\t≠133/\t≠129/\t≠121/\t≠137/\t≠105):¬v.jT n:=fun hf=>by
 obtain⟨c,t',e,h'⟩:=h.ij hf;rw[hn]at e;cases e;obtain⟨h1,h2,h3,h4,h5,h6⟩:=ht;rcases h' with h|h|h|h|h|h
 ·exact h1 h
 ·exact h2 h
 ·exact h3 h
 ·exact h4 h
 ·exact h5 h
 ·exact h6 h
theorem dm.row(h:dm base w B cs o v p w'){n:Nat}{old:bS}{t:TypeId}(ou:base<=w.heap.size)(hB:B<w.heap.size)(hn:w.heap.size<=n)(hr:w'.heap[n]?=some (.cells old t (0,0)))
  (ht:t≠118/\t≠133/\t≠129/\t≠121/\t≠137/\t≠105)(hs:t≠9)(new:bS):dm base w B cs o v p (w'.setRow n new):=by
 obtain⟨v',h1,h2,h3,h4⟩:=h;have kx:Fr (one n) w' (w'.setRow n new):=(ae (one n) w').setRow (fun _=>rfl) _;have mO:rR base w' (one n):=by
  rintro k rfl _;exact⟨ab,fun c f e=>by rw[hr]at e;cases e;exact hs rfl⟩
 refine⟨v',h1.fr kx mO (fun i hi e=>?_),h2.step kx (fun k hk e=>?_),h3,kx.keep h4 (fun e=>?_)⟩
 ·have e':i=n:=e;subst e';exact h1.fg hr ht hi
 ·have e':k=n:=e;omega
 ·have e':B=n:=e;omega
end
theorem eL:(46:TypeId)≠118/\(46:TypeId)≠133/\(46:TypeId)≠129/\(46:TypeId)≠121/\(46:TypeId)≠137/\(46:TypeId)≠105:=ag
theorem bf(x:bS)(h:x.size=3):(prog.info? 46).map (·.size)=some x.size:=by rw[h];kernel_rfl
theorem eh{b:Nat}{o:jz}(h:w.heap[b]?=some (.cells o.cells.toArray 33 (0,0)))(hh:o.aJ.en=.slice ah hs.length ch):w.cell? ⟨b,0,none⟩=some (.int .i64 o.what)/\w.cell? ⟨b,1,none⟩=some (.int .i64 o.aJ.part)/\w.cell? ⟨b,2,none⟩=some (.bool o.aJ.cW.aE)/\w.cell? ⟨b,3,none⟩=some (.string o.aJ.cW.host)/\w.cell? ⟨b,4,none⟩=some (.int .i64 o.aJ.cW.port)/\w.cell? ⟨b,5,none⟩=some (.bool o.aJ.o.aE)/\w.cell? ⟨b,6,none⟩=some (.string o.aJ.o.host)/\w.cell? ⟨b,7,none⟩=some (.int .i64 o.aJ.o.port)/\w.cell? ⟨b,8,none⟩=some (.string o.aJ.path)/\w.cell? ⟨b,9,none⟩=some (.string o.aJ.query)/\w.cell? ⟨b,10,none⟩=some (.string o.aJ.method)/\w.cell? ⟨b,11,none⟩=some (.slice ah hs.length ch)/\w.cell? ⟨b,12,none⟩=some (.bool o.aJ.fN)/\w.cell? ⟨b,13,none⟩=some (.string o.aJ.body)/\w.cell? ⟨b,14,none⟩=some (.bool o.proxy)/\w.cell? ⟨b,15,none⟩=some (.string o.text)/\w.cell? ⟨b,16,none⟩=some (.string o.user)/\w.cell? ⟨b,17,none⟩=some (.string o.pass)/\w.cell? ⟨b,18,none⟩=some (.string o.bK)/\w.cell? ⟨b,19,none⟩=some (.int .i64 o.cert)/\w.cell? ⟨b,20,none⟩=some (.bool o.all)/\w.cell? ⟨b,21,none⟩=some (.int .i64 o.n):=by
 have e:o.cells=[.int .i64 o.what,.int .i64 o.aJ.part,.bool o.aJ.cW.aE,.string o.aJ.cW.host,.int .i64 o.aJ.cW.port,.bool o.aJ.o.aE,.string o.aJ.o.host,.int .i64 o.aJ.o.port,.string o.aJ.path,.string o.aJ.query,.string o.aJ.method,.slice ah hs.length ch,.bool o.aJ.fN,.string o.aJ.body,.bool o.proxy,.string o.text,.string o.user,.string o.pass,.string o.bK,.int .i64 o.cert,.bool o.all,.int .i64 o.n]:=by unfold jz.cells gl.cells;rw[hh];rfl
 rw[e]at h;simp only[World.cell?,h];exact⟨rfl,rfl,rfl,rfl,rfl,rfl,rfl,rfl,rfl,rfl,rfl,rfl,rfl,rfl,rfl,rfl,rfl,rfl,rfl,rfl,rfl,rfl⟩
theorem dZ{o:jz}(hh:o.aJ.en=.slice ah hs.length ch):o.cells=[.int .i64 o.what,.int .i64 o.aJ.part,.bool o.aJ.cW.aE,.string o.aJ.cW.host,.int .i64 o.aJ.cW.port,.bool o.aJ.o.aE,.string o.aJ.o.host,.int .i64 o.aJ.o.port,.string o.aJ.path,.string o.aJ.query,.string o.aJ.method,.slice ah hs.length ch,.bool o.aJ.fN,.string o.aJ.body,.bool o.proxy,.string o.text,.string o.user,.string o.pass,.string o.bK,.int .i64 o.cert,.bool o.all,.int .i64 o.n]:=by unfold jz.cells gl.cells;rw[hh];rfl
theorem zL{o:jz}(hh:o.aJ.en=.slice ah hs.length ch):o.aJ.cells=[.int .i64 o.aJ.part,.bool o.aJ.cW.aE,.string o.aJ.cW.host,.int .i64 o.aJ.cW.port,.bool o.aJ.o.aE,.string o.aJ.o.host,.int .i64 o.aJ.o.port,.string o.aJ.path,.string o.aJ.query,.string o.aJ.method,.slice ah hs.length ch,.bool o.aJ.fN,.string o.aJ.body]:=by unfold gl.cells;rw[hh]
def eG(base:Nat)(w:World)(B:Nat)(cs:aX)(off:Nat)(v:cU)(r:eD×kM)(e:Ending)(w':World):Prop :=
 e=.returned r.2.val/\dm base w B cs off v r.1 w'
abbrev dy := @dm.row
theorem N6(hr:o.right=true):1<=o.what/\o.what<=10:=by
 unfold kl.right at hr;simp only[cF,dF]at hr;exact⟨hr.1,hr.2.1⟩
theorem aoT(h:o.what=1):wK p n o=lG p o:=by
 unfold wK;rw[aA h]
theorem aoU(h:o.what=2):wK p n o=jw p o:=by
 unfold wK;rw[ar ab,aA h]
theorem aoV(h:o.what=3):wK p n o=lh p o:=by
 unfold wK;rw[ar ab,ar ab,aA h]
theorem aoW(h:o.what=4):wK p n o=(p,rep (if mA p.book o.aJ n then 5 else 4)):=by
 unfold wK;rw[ar ab,ar ab,ar ab,aA h]
theorem aoX(h:o.what=5):wK p n o=lj p n o:=by
 unfold wK;rw[ar ab,ar ab,ar ab,ar ab,aA h]
theorem aoY(h:o.what=6):wK p n o=(p,PS p o):=by
 unfold wK;rw[ar ab,ar ab,ar ab,ar ab,ar ab,aA h]
theorem aoZ(h:o.what=7):wK p n o=oN p o:=by
 unfold wK;rw[ar ab,ar ab,ar ab,ar ab,ar ab,ar ab,aA h]
theorem RW{part:Int}(h0:0<=part)(h1:part<4)(w f:dN)(c:Nat):mE w f part c={part:=fun i=>if i=part.toNat then uE c (w.part i) (f.part i)else w.part i,now:=if c.testBit 3 then f.now else w.now}:=by
 unfold mE;rw[aA ⟨h0,h1⟩]
theorem Gu(hr:o.right=false):eO o=(0,false):=by unfold eO;rw[hr];rfl
theorem wk(base:Nat)(w:World)(B:Nat)(pv:Nat->cU)(x:dN)(h:cE base w B pv x)(i:Nat)(hi:i<4)(hl:(x.part i).bU.length<68719476736) :
  aB 33 #[.pointer (some ⟨B,0,none⟩),.int .i64 i] w (Dy base w (x.part i).bU):=by
 have c:=(h.partAt hi).cell0;have HR:=O (Dz base w (pv i).b (pv i).gv (pv i).wv (x.part i).bU (x.part i).waits (h.part i hi).ot hl);have MG:(i:Int)<4:=ab;have qp:¬(i:Int)<0:=ab;have Nb:¬(4:Int)<=(i:Int):=ab;have Kt:(0:Int)<=(i:Int):=ab;clear h hl;go_enter func33,ntmps33;go_wp2_with fail
 refine HR.o.mono ?_;rintro e u⟨v',rfl,hg⟩;go_wp2;go_ret;exact⟨v',rfl,hg⟩
theorem Er(base:Nat)(w:World)(B:Nat)(pv:Nat->cU)(x:dN)(h:cE base w B pv x)(i:Nat)(hi:i<4)(hl:(x.part i).waits.length<68719476736) :
  aB 57 #[.pointer (some ⟨B,0,none⟩),.int .i64 i] w (F8 base w (x.part i).waits):=by
 have c:=(h.partAt hi).cell0;have HR:=O (F9 base w (pv i).b (pv i).gv (pv i).wv (x.part i).bU (x.part i).waits (h.part i hi).ot hl);have MG:(i:Int)<4:=ab;have qp:¬(i:Int)<0:=ab;have Nb:¬(4:Int)<=(i:Int):=ab;have Kt:(0:Int)<=(i:Int):=ab;clear h hl;go_enter func57,ntmps57;go_wp2_with fail
 refine HR.o.mono ?_;rintro e u⟨v',rfl,hg⟩;go_wp2;go_ret;exact⟨v',rfl,hg⟩
theorem BN(base:Nat)(w:World)(B:Nat)(pv:Nat->cU)(x:dN)(h:cE base w B pv x)(i:Nat)(hi:i<4)(hl:(x.part i).book.length<1000000) :
  aB 63 #[.pointer (some ⟨B,0,none⟩),.int .i64 i] w (fun e w'=>∃v',e=.returned v'/\OwnRows w.heap.size 137 12 w' v' ((x.part i).book.map ef.cells)/\Fr aS w w'):=by
 have c:=(h.partAt hi).gW;have HR:=O (zF base w (pv i).k (pv i).kv (x.part i).book (h.part i hi).book hl);have MG:(i:Int)<4:=ab;have qp:¬(i:Int)<0:=ab;have Nb:¬(4:Int)<=(i:Int):=ab;have Kt:(0:Int)<=(i:Int):=ab;clear h hl;go_enter func63,ntmps63;go_wp2_with fail
 refine HR.o.mono ?_;rintro e u⟨v',rfl,hg⟩;go_wp2;go_ret;exact⟨v',rfl,hg⟩
theorem Es(base:Nat)(w:World)(B:Nat)(pv:Nat->cU)(x:dN)(h:cE base w B pv x)(i:Nat)(hi:i<4)(hl:(x.part i).eB.length<=1000000) :
  aB 58 #[.pointer (some ⟨B,0,none⟩),.int .i64 i] w (fun e w'=>∃v',e=.returned v'/\OwnRows w.heap.size 105 4 w' v' ((x.part i).eB.map kY)/\Fr aS w w'):=by
 have c:=(h.partAt hi).lO;have HR:=O (P6 (pv i).cv ((x.part i).eB.map kY) w (h.part i hi).eB.at (by rw[ai];omega));have MG:(i:Int)<4:=ab;have qp:¬(i:Int)<0:=ab;have Nb:¬(4:Int)<=(i:Int):=ab;have Kt:(0:Int)<=(i:Int):=ab;obtain⟨a,k,hcv⟩:=(h.part i hi).eB.form;rw[ai]at hcv;rw[hcv]at c HR;clear h hl;go_enter func58,ntmps58;go_wp2_with fail
 refine HR.o.mono ?_;rintro e u⟨v',rfl,hg⟩;go_wp2;go_ret;exact⟨v',rfl,hg⟩
structure lI (x:dN):Prop where
 ok:xu x
 sm:DY x
 path:DZ x
theorem lI.new:lI AQ:=⟨xu.new,DY.new,DZ.new⟩
theorem lI.mi{x:dN}(h:lI x)(o:kl)(hu:o.user.size<=5000)(hp:o.pass.size<=5000)(ha:o.path.size<=5000):lI (mi x o).1 :=
 ⟨h.ok.mi o,h.sm.mi o hu hp,h.path.mi o ha⟩
def EZ(n:Int):kl:=⟨n,0,tP,tP,⟨#[47]⟩,⟨#[]⟩,⟨#[71,69,84]⟩,[],false,⟨#[]⟩,false,⟨#[66,97,115,105,99,32,114,101,97,108,109,61,114]⟩,⟨#[117]⟩,⟨#[112]⟩,⟨#[]⟩,0,false,0⟩
def PX:dN:=(mi AQ (EZ 2)).1
def PY:dN:=(mi PX (EZ 3)).1
def abH:dN:=(mi PY (EZ 1)).1
theorem an1:(mi AQ (EZ 2)).2=⟨3,⟨#[]⟩,0⟩:=af
theorem an2:(mi PX (EZ 3)).2=⟨1,⟨#[]⟩,0⟩:=af
theorem an3:(mi PY (EZ 1)).2=⟨1,⟨#[66,97,115,105,99,32,100,84,112,119]⟩,0⟩:=af
theorem an4:(abH.part 0).bU.length=1:=af
theorem abI:lI PX:=lI.new.mi _ ag ag ag
theorem aik:lI PY:=abI.mi _ ag ag ag
theorem uz{n:Nat}{x:Obj}(h:w.heap[n]?=some x)(hn:n≠B)(o:Nat)(u:Value):(w.setCell ⟨B,o,none⟩ u).heap[n]?=some x :=
 ((ae (one B) w).setCell (p:=⟨B,o,none⟩) (fun _=>rfl) u).keep h hn
theorem Vt{o:Nat}(h:o+2<cs.length):(o8 cs o v)[o]?=some (.pointer (some ⟨v.b,0,none⟩))/\(o8 cs o v)[o+1]?=some (.pointer (some ⟨v.k,0,none⟩))/\(o8 cs o v)[o+2]?=some v.cv:=by
 unfold o8;refine⟨?_,?_,?_⟩
 ·rw[List.getElem?_set_ne ab,List.getElem?_set_ne ab,List.getElem?_set_self ab]
 ·rw[List.getElem?_set_ne ab,List.getElem?_set_self bH]
 ·rw[List.getElem?_set_self bH]
theorem Rw(cs:aX)(o:Nat)(v v':cU):o8 (o8 cs o v) o v'=o8 cs o v':=by
 unfold o8;apply iY;intro i;simp only[List.getElem?_set,d_];by_cases h2:o+2=i
 ·simp[h2]
 by_cases h1:o+1=i
 ·simp[h1,h2]
 by_cases h0:o=i
 ·simp[h0]
 simp[h0,h1,h2]
theorem gP.after{w w1:World}{B off:Nat}{cs:aX}{v v1:cU}(ha:gP w B cs off v)(hb:w1.heap[B]?=some (.cells (o8 cs off v1).toArray 97 (0,0))):gP w1 B (o8 cs off v1) off v1:=by
 have hl:off+2<cs.length:=(List.getElem?_eq_some_iff.1 ha.c2).1;obtain⟨h0,h1,h2⟩:=Vt (v:=v1) hl;exact⟨hb,h0,h1,h2⟩
theorem dm.seq{base:Nat}{w w1 w2:World}{B off:Nat}{cs:aX}{v v1:cU}{p2:eD}(f1:Fr (zK B v) w w1)(BI:∀k,v1.jT k->v.jT k\/w.heap.size<=k)(h2:dm base w1 B (o8 cs off v1) off v1 p2 w2):dm base w B cs off v p2 w2:=by
 obtain⟨v2,i2,f2,aio,an6⟩:=h2;refine⟨v2,i2,f1.step f2 (fun k hk hp=>?_),fun k hk=>?_,?_⟩
 ·rcases hp with rfl|hp
  ·exact Or.inl rfl
  ·rcases BI k hp with h|h
   ·exact Or.inr h
   ·omega
 ·rcases aio k hk with h|h
  ·exact BI k h
  ·exact Or.inr (aF f1.size h)
 ·rw[an6,Rw]
theorem dm.fresh{off:Nat}(h:eP base w v p)(ha:gP w B cs off v)(ou:base<=B) :
  dm base w B cs off v yi (((((w.alloc (.cells #[.slice none 0 0,.slice none 0 0] 118)).alloc (.cells #[.slice none 0 0] 121)).setCell ⟨B,off,none⟩ (.pointer (some ⟨w.heap.size,0,none⟩))).setCell ⟨B,off+1,none⟩ (.pointer (some ⟨w.heap.size+1,0,none⟩))).setCell ⟨B,off+2,none⟩ (.slice none 0 0)):=by
 have hB:¬v.jT B:=h.fg ha.eJ ag;have uA:B<w.heap.size:=bj ha.eJ;obtain⟨W,hW⟩:∃W,W=(w.alloc (.cells #[.slice none 0 0,.slice none 0 0] 118)).alloc (.cells #[.slice none 0 0] 121):=⟨_,rfl⟩;have hf:Fr aS w W:=by rw[hW];exact((ae aS w).alloc _).alloc _
 have xm:W.heap[w.heap.size]?=some (.cells #[.slice none 0 0,.slice none 0 0] 118 (0,0)):=by rw[hW];exact((ae aS _).alloc _).keep (aC _ _) id
 have Nh:W.heap[w.heap.size+1]?=some (.cells #[.slice none 0 0] 121 (0,0)):=by
  have h:=aC (w.alloc (.cells #[.slice none 0 0,.slice none 0 0] 118)) (.cells #[.slice none 0 0] 121);rw[bN]at h;rw[hW];exact h
 rw[<-hW];have pR:=hf.keep ha.eJ id;obtain⟨V,hV⟩:∃V,V=((W.setCell ⟨B,off,none⟩ (.pointer (some ⟨w.heap.size,0,none⟩))).setCell ⟨B,off+1,none⟩ (.pointer (some ⟨w.heap.size+1,0,none⟩))).setCell ⟨B,off+2,none⟩ (.slice none 0 0):=⟨_,rfl⟩;have XI:Fr (one B) W V:=by
  rw[hV];exact(((ae (one B) W).setCell (p:=⟨B,off,none⟩) (fun _=>rfl) _).setCell (p:=⟨B,off+1,none⟩) (fun _=>rfl) _).setCell (p:=⟨B,off+2,none⟩) (fun _=>rfl) _
 have hbV:V.heap[B]?=some (.cells (o8 cs off ⟨w.heap.size,.slice none 0 0,.slice none 0 0,w.heap.size+1,.slice none 0 0,.slice none 0 0⟩).toArray 97 (0,0)):=by
  have e1:=b_ pR off (.pointer (some ⟨w.heap.size,0,none⟩));have e2:=b_ e1 (off+1) (.pointer (some ⟨w.heap.size+1,0,none⟩));have e3:=b_ e2 (off+2) (.slice none 0 0);rw[hV,e3];unfold o8;simp
 rw[<-hV]
 refine⟨⟨w.heap.size,.slice none 0 0,.slice none 0 0,w.heap.size+1,.slice none 0 0,.slice none 0 0⟩,⟨⟨by show base<=w.heap.size;omega,XI.keep xm (fun e=>by have e':w.heap.size=B:=e;omega),⟨[],dx _ _ _ _,.nil⟩,⟨[],dx _ _ _ _,.nil⟩⟩,⟨by show base<=w.heap.size+1;omega,XI.keep Nh (fun e=>by have e':w.heap.size+1=B:=e;omega),dx _ _ _ _⟩,dx _ _ _ _⟩,fU (S:=zK B v) (hf.mono (fun _ _ h=>absurd h id)) XI (fun _ _ e=>Or.inl e),?_,hbV⟩
 rintro k(hk|hk|hk)
 ·rcases hk with hk|hk|hk
  ·have e:k=w.heap.size:=hk;exact Or.inr ab
  ·simp[own,Value.ownBlock]at hk
  ·simp[own,Value.ownBlock]at hk
 ·rcases hk with hk|hk
  ·have e:k=w.heap.size+1:=hk;exact Or.inr ab
  ·simp[own,Value.ownBlock]at hk
 ·simp[own,Value.ownBlock]at hk
def eY(t:TypeId):Prop:=t≠118/\t≠133/\t≠129/\t≠121/\t≠137/\t≠105
theorem eI{w':World}{n:Nat}{c:bS}(h:eP base w v p)(hf:Fr (zK B v) w w')(hn:w.heap[n]?=some (.cells c t (0,0)))(ht:eY t)(hB:n≠B):w'.heap[n]?=some (.cells c t (0,0)) :=
 hf.keep hn (fun e=>by
  rcases e with e|e
  ·exact hB e
  ·exact h.fg hn ht e)
theorem jb:eY 33:=by unfold eY;decide
theorem pI:eY 24:=by unfold eY;decide
theorem dJ:eY 46:=by unfold eY;decide
theorem Gk:eY 29:=by unfold eY;decide
theorem AV:eY 127:=by unfold eY;decide
abbrev ik := @gP.after
abbrev gH := @dm.seq
structure w_ where
 does:Nat
 op:kl
 fails:Nat
 ng:Int
 seen:dN
 num:Nat->Nat->Int
 jy:kM
def ao0:kl:=⟨0,0,⟨false,.empty,0⟩,⟨false,.empty,0⟩,.empty,.empty,.empty,[],false,.empty,false,.empty,.empty,.empty,.empty,0,false,0⟩
def fW:w_:=⟨0,ao0,0,0,AQ,fun _ _=>0,rep 0⟩
structure P7 where
 tab:Nat
 op:kl
 jy:kM
 ng:Int
 fin:Int
structure im where
 w:dN
 num:Nat->Nat->Int
 tab:Nat->w_
 steps:Int
 fJ:List P7
def xy:im:=⟨AQ,fun _ _=>0,fun _=>fW,0,[]⟩
def im.put(t:im)(n:Nat)(x:w_):im:={t with tab:=fun i=>if i=n then x else t.tab i}
def mT(o:kl):List (Nat×Nat):=[0,1,2,3].filterMap fun i=>if(eO o).1.testBit i then some (if i=3 then 0 else o.part.toNat,i)else none
def Gv(o:kl)(f:Nat->Nat->Int):List Int:=(mT o).map fun c=>f c.1 c.2
def Gw(o:kl)(f:Nat->Nat->Int):Nat->Nat->Int:=fun p i=>if(p,i)∈mT o then f p i+1 else f p i
def nx(t:im)(n:Nat)(r:kM):im :=
 {t with fJ:=t.fJ++[⟨n,(t.tab n).op,r,(t.tab n).ng,t.steps⟩],tab:=fun i=>if i=n then fW else t.tab i}
def jZ(t:im)(n:Nat):im×(kM×Bool) :=
 if Gv (t.tab n).op t.num=Gv (t.tab n).op (t.tab n).num then
  (nx (if(eO (t.tab n).op).2 then{t with w:=mE t.w (t.tab n).seen (t.tab n).op.part (eO (t.tab n).op).1,num:=Gw (t.tab n).op t.num}else t) n (t.tab n).jy,(t.tab n).jy,true)
 else if(t.tab n).fails+1<=3 then(t.put n {t.tab n with fails:=(t.tab n).fails+1,does:=1},rep 0,false)
 else(nx (t.put n {t.tab n with fails:=(t.tab n).fails+1}) n (rep 6),rep 6,true)
def stepT(t:im)(n:Nat):im×(kM×Bool) :=
 if(t.tab n).does=1 then({(t.put n {t.tab n with seen:=t.w,num:=t.num,does:=2})with steps:=t.steps+1},rep 0,false)
 else if(t.tab n).does=2 then({(t.put n {t.tab n with jy:=(mi (t.tab n).seen (t.tab n).op).2,seen:=(mi (t.tab n).seen (t.tab n).op).1,does:=3})with steps:=t.steps+1},rep 0,false)
 else jZ {t with steps:=t.steps+1} n
def yn(n:Int):Bool:=decide (0<=n)&&decide (n<6)
def kZ(t:im)(n:Int):im×(kM×Bool×Nat) :=
 if yn n then
  if(t.tab n.toNat).does=0 then(t,rep 0,false,8)else((stepT t n.toNat).1,(stepT t n.toNat).2.1,(stepT t n.toNat).2.2,0)
 else(t,rep 0,false,2)
def yo(t:im)(n:Int)(o:kl):im×Nat :=
 if yn n then
  if(t.tab n.toNat).does=0 then({(t.put n.toNat {fW with does:=1,op:=o,ng:=t.steps+1})with steps:=t.steps+1},0)else(t,6)
 else(t,2)
def kP(t:im)(n:Int):im×Nat :=
 if yn n then
  if(t.tab n.toNat).does=0 then(t,8)else({(t.put n.toNat fW)with steps:=t.steps+1},0)
 else(t,2)
def P8(t:im)(n:Int):Nat:=if yn n then(t.tab n.toNat).does else 0
structure MvL where
 kind:Int
 tab:Int
 op:kl
def zQ(t:im)(m:MvL):im :=
 if m.kind=1 then(yo t m.tab m.op).1 else if m.kind=2 then(kP t m.tab).1 else if m.kind=0 then(kZ t m.tab).1 else t
def yp(l:List MvL):im:=l.foldl zQ xy
theorem V6{p i:Nat}:(p,i)∈mT o↔i<4/\(eO o).1.testBit i=true/\p=(if i=3 then 0 else o.part.toNat):=by
 unfold mT;simp only[List.mem_filterMap,bB,cz,dU];constructor
 ·rintro⟨j,hj,h⟩;split at h
  ·rename_i hb;simp only[eo,iI]at h;obtain⟨h1,rfl⟩:=h;exact⟨ab,hb,h1.symm⟩
  ·cases h
 ·rintro⟨h1,h2,h3⟩;exact⟨i,ab,by rw[aA h2,h3]⟩
theorem Vl.abZ{n:Nat}{er:Value}(h:Vl n er w):∃t x,er=.iface t x:=by
 rcases h with rfl|⟨g,p,rfl,_⟩
 ·exact⟨_,_,rfl⟩
 ·exact⟨_,_,rfl⟩
theorem LC(base:Nat)(w:World)(B off:Nat)(cs:aX)(v:cU)(p:eD)(o:jz)(hs:List gY)(now:Int)(h:eP base w v p)(ha:gP w B cs off v)(ou:base<=B)(hf:gB w o hs)(hk:nd p)(ht:xn w)(n0:0<=now)(n1:now<=1099511627776) :
  aB 46 #[.pointer (some ⟨B,off,none⟩),.agg o.cells.toArray,.int .i64 now] w (eG base w B cs off v (lj p now (o.dS hs))):=by
 have uA:B<w.heap.size:=bj ha.eJ;have Gr:¬v.jT B:=h.fg ha.eJ ag;obtain⟨ah,ch,gD⟩:=hf.gT;have RR:=hk.qZ.2.2.1;have R_:=hf.text;obtain⟨w2,eA⟩:∃w2,w2=(w.alloc (.cells o.cells.toArray 33)).alloc (.cells bR 46):=⟨_,rfl⟩;have dz:Fr aS w w2:=by rw[eA];exact((ae aS w).alloc _).alloc _
 have k1:w2.heap[w.heap.size]?=some (.cells o.cells.toArray 33 (0,0)):=by rw[eA];exact((ae aS _).alloc _).keep (aC _ _) id
 have k2:w2.heap[w.heap.size+1]?=some (.cells bR 46 (0,0)):=by
  have h:=aC (w.alloc (.cells o.cells.toArray 33)) (.cells bR 46);rw[bN]at h;rw[eA];exact h
 have VU:=O (show∀U,Fr aS w2 U->U.heap[w.heap.size]?=some (.cells o.cells.toArray 33 (0,0))from fun U hU=>hU.keep k1 id);have Cs:=O Gr;have HH:=O h;have HA:=O ha;have HF:=O hf;have lu:=O gD;have HT:=O ht;have fY:=O dz;have qG:=O k2;have oY:=O (show base<=w.heap.size from ab);have oT:=O uA;have FL:=O (Oe o.text w2 R_);have RD:=O eA
 obtain⟨a0,a1,a2,a3,a4,a5,a6,a7,a8,a9,jA,jB,a12,jx,jC,jd,jK,jL,jM,jU,a20,a21⟩:=eh k1 gD;rw[eA]at a0 a1 a2 a3 a4 a5 a6 a7 a8 a9 jA jB a12 jx jC jd jK jL jM jU a20 a21;rw[dZ gD]at eA a0 a1 a2 a3 a4 a5 a6 a7 a8 a9 jA jB a12 jx jC jd jK jL jM jU a20 a21 ⊢;unfold bR at eA a0 a1 a2 a3 a4 a5 a6 a7 a8 a9 jA jB a12 jx jC jd jK jL jM jU a20 a21;have nD:=O eA;clear eA gD dz k1 k2 h ha hf Gr hk ht R_
 go_enter func46,ntmps46;go_wp2_with fail
 rw[<-nD.o];refine FL.o.mono ?_;rintro e u1 FU;clear a0 a1 a2 a3 a4 a5 a6 a7 a8 a9 jA jB a12 jx jC jd jK jL jM jU a20 a21;obtain⟨tY,FU⟩:=FU;have Ii:=O tY;cases zt:mK o.text.data.toList with
 |error n =>
  rw[zt]at FU;obtain⟨er,rfl,hen⟩:=FU;obtain⟨et,ev,rfl⟩:=hen.abZ;have HR:=O (show lj p now (o.dS hs)=(p,rep 7)by unfold lj;rw[show(o.dS hs).text=o.text from rfl,zt]);have AZ:=O (tY.keep qG.o id);clear zt hen tY
  go_wp2_with (first|((with_reducible refine cV 46 ?_);refine aG rfl 46 (.tmp 6) (.tmp 18) rfl (w.heap.size+1) #[.int .i64 7,.string ⟨#[]⟩,.int .i64 0] rfl rfl _ bR AZ.o (bf _ rfl) rfl ct ?_)|fail)
  refine aU (bu bC _ _ (w.heap.size+1) 46 #[.int .i64 7,.string ⟨#[]⟩,.int .i64 0] (0,0) _ rfl (aY u1 (w.heap.size+1) _ _ _ _ AZ.o) underlying46 rfl (bf _ rfl)) rfl ?_;unfold eG;rw[HR.o];exact⟨rfl,dy (mf HH.o HA.o (fY.o.trans Ii.o)) oY.o oT.o (bV _) AZ.o eL ag _⟩
 |ok l =>
  rw[zt]at FU;obtain⟨v1,rfl,Az⟩:=FU;have rG:=Az.form;rw[ai]at rG;obtain⟨al,cl,rfl⟩:=rG;have oZ:=Iz zt;have hh1:=bh HF.o.en (fY.o.trans tY);have GR:=O (R0 o.aJ hs _ l now u1 hh1 Az.at oZ HF.o.aJ (HT.o.fr (fY.o.trans tY)) HF.o.Vr.1 HF.o.Vr.2 HF.o.cW n0 n1);rw[zL lu.o]at GR;obtain⟨a0,a1,a2,a3,a4,a5,a6,a7,a8,a9,jA,jB,a12,jx,jC,jd,jK,jL,jM,jU,a20,a21⟩:=eh (VU.o u1 tY) lu.o;have HFL:=O zt
  clear zt tY Az oZ hh1;go_wp2_with fail
  refine GR.o.mono ?_;rintro e u2⟨nj,CS⟩;clear a0 a1 a2 a3 a4 a5 a6 a7 a8 a9 jA jB a12 jx jC jd jK jL jM jU a20 a21 GR;have tu:=O (Ii.o.trans nj);have rC:=O (fY.o.trans tu.o);cases hg:ug (o.aJ.dS hs) (wX o.aJ.cW).data.toList l now with
  |error n =>
   rw[hg]at CS;obtain rfl:=CS;have HR:=O (show lj p now (o.dS hs)=({p with book:=p.book.filter (fun q=>!q.uK (o.aJ.dS hs))},rep 2)by
    unfold lj;rw[show(o.dS hs).text=o.text from rfl,HFL.o];simp only;rw[show ug (o.dS hs).aJ (Fq (o.dS hs).cW.dS) l now=.error n from hg];rfl)
   have GB:=O (show∀U,Fr (iu v.k v.kv) u2 U->(U.cell? ⟨B,off+1,none⟩=some (.pointer (some ⟨v.k,0,none⟩))/\U.cell? ⟨w.heap.size,1,none⟩=some (.int .i64 o.aJ.part)/\U.cell? ⟨w.heap.size,2,none⟩=some (.bool o.aJ.cW.aE)/\U.cell? ⟨w.heap.size,3,none⟩=some (.string o.aJ.cW.host)/\U.cell? ⟨w.heap.size,4,none⟩=some (.int .i64 o.aJ.cW.port)/\U.cell? ⟨w.heap.size,5,none⟩=some (.bool o.aJ.o.aE)/\U.cell? ⟨w.heap.size,6,none⟩=some (.string o.aJ.o.host)/\U.cell? ⟨w.heap.size,7,none⟩=some (.int .i64 o.aJ.o.port)/\U.cell? ⟨w.heap.size,8,none⟩=some (.string o.aJ.path)/\U.cell? ⟨w.heap.size,9,none⟩=some (.string o.aJ.query)/\U.cell? ⟨w.heap.size,10,none⟩=some (.string o.aJ.method)/\U.cell? ⟨w.heap.size,11,none⟩=some (.slice ah hs.length ch)/\U.cell? ⟨w.heap.size,12,none⟩=some (.bool o.aJ.fN)/\U.cell? ⟨w.heap.size,13,none⟩=some (.string o.aJ.body))from fun U hU=>by
    have j1:=(HA.o.di rC.o).fr hU (fun hb=>Cs.o (Or.inr (Or.inl hb)));have j2:=hU.keep (VU.o u2 tu.o) (fun hb=>by
     have h3:=(HH.o.di rC.o).book.ij hb;obtain⟨c,t,e,hk⟩:=h3;rw[VU.o u2 tu.o]at e;cases e;revert hk;decide)
    obtain⟨a0,a1,a2,a3,a4,a5,a6,a7,a8,a9,jA,jB,a12,jx,jC,jd,jK,jL,jM,jU,a20,a21⟩:=eh j2 lu.o;exact⟨j1.gW,a1,a2,a3,a4,a5,a6,a7,a8,a9,jA,jB,a12,jx⟩)
   have HFG:=O (show∀U,Fr aS u2 U->aB 88 #[.pointer (some ⟨v.k,0,none⟩),.agg #[.int .i64 o.aJ.part,.bool o.aJ.cW.aE,.string o.aJ.cW.host,.int .i64 o.aJ.cW.port,.bool o.aJ.o.aE,.string o.aJ.o.host,.int .i64 o.aJ.o.port,.string o.aJ.path,.string o.aJ.query,.string o.aJ.method,.slice ah hs.length ch,.bool o.aJ.fN,.string o.aJ.body]] U (tQ base U v.k v.kv p.book (ef.uK (o.aJ.dS hs)))from fun U hU=>by
    have:=Lg base U v.k v.kv p.book o.aJ hs ((HH.o.di rC.o).di hU).book ab;rw[zL lu.o]at this;exact this)
   clear hg;go_wp2_with fail
   go_region_held3 (fun U=>Fr (iu v.k v.kv) u2 U/\U.cell? ⟨B,off+1,none⟩=some (.pointer (some ⟨v.k,0,none⟩))/\U.cell? ⟨w.heap.size,1,none⟩=some (.int .i64 o.aJ.part)/\U.cell? ⟨w.heap.size,2,none⟩=some (.bool o.aJ.cW.aE)/\U.cell? ⟨w.heap.size,3,none⟩=some (.string o.aJ.cW.host)/\U.cell? ⟨w.heap.size,4,none⟩=some (.int .i64 o.aJ.cW.port)/\U.cell? ⟨w.heap.size,5,none⟩=some (.bool o.aJ.o.aE)/\U.cell? ⟨w.heap.size,6,none⟩=some (.string o.aJ.o.host)/\U.cell? ⟨w.heap.size,7,none⟩=some (.int .i64 o.aJ.o.port)/\U.cell? ⟨w.heap.size,8,none⟩=some (.string o.aJ.path)/\U.cell? ⟨w.heap.size,9,none⟩=some (.string o.aJ.query)/\U.cell? ⟨w.heap.size,10,none⟩=some (.string o.aJ.method)/\U.cell? ⟨w.heap.size,11,none⟩=some (.slice ah hs.length ch)/\U.cell? ⟨w.heap.size,12,none⟩=some (.bool o.aJ.fN)/\U.cell? ⟨w.heap.size,13,none⟩=some (.string o.aJ.body)) ((refine(fun hU=>⟨hU,GB.o _ hU⟩) ?_;first|exact az (ae _ _)|assumption))
    ((first
     |(go_at_call 88;refine(HFG.o _ (az (ae _ _))).mono ?_;rintro e u3 ⟨rfl,sV⟩;have vW:Fr (iu v.k v.kv) u2 u3:=(az (ae _ _)).trans (by obtain⟨_,_,h,_⟩:=sV;exact h))))
   have HPP:=O (oO ((HH.o.di rC.o).di (az (ae aS u2))) ((HA.o.di rC.o).di (az (ae aS u2))) Cs.o sV);have AZ:=O (vW.keep (tu.o.keep qG.o id) (fun hb=>by
    obtain⟨c,t,e,hk⟩:=(HH.o.di rC.o).book.ij hb;rw[tu.o.keep qG.o id]at e;cases e;revert hk;decide))
   clear sV vW GB HFG;go_wp2_with (first|((with_reducible refine cV 46 ?_);refine aG rfl 46 (.tmp 6) (.tmp 36) rfl (w.heap.size+1) #[.int .i64 2,.string ⟨#[]⟩,.int .i64 0] rfl rfl _ bR AZ.o (bf _ rfl) rfl ct ?_)|fail)
   refine aU (bu bC _ _ (w.heap.size+1) 46 #[.int .i64 2,.string ⟨#[]⟩,.int .i64 0] (0,0) _ rfl (aY u3 (w.heap.size+1) _ _ _ _ AZ.o) underlying46 rfl (bf _ rfl)) rfl ?_;unfold eG;rw[HR.o];exact⟨rfl,dy ((HPP.o.after (az (ae aS u2))).after rC.o) oY.o oT.o (bV _) AZ.o eL ag _⟩
  |ok m =>
   rw[hg]at CS;obtain⟨v2,rfl,qN⟩:=CS;have HR:=O (show lj p now (o.dS hs)=({p with book:=uf p.book m now},rep 1)by
    unfold lj;rw[show(o.dS hs).text=o.text from rfl,HFL.o];simp only;rw[show ug (o.dS hs).aJ (Fq (o.dS hs).cW.dS) l now=.ok m from hg])
   have sG:=R9 hg;have hbo:=(HH.o.di rC.o).book;have ajv:=qN.form;rw[ai]at ajv;obtain⟨am,cm,rfl⟩:=ajv;have HP:=O (KS base u2 v.k v.kv p.book _ m now hbo qN.at (fun _ k hk hb=>by
    have h1:=qN.block k hk;have h2:=HH.o.jf (Or.inr (Or.inl hb));have h3:=fY.o.size;have h4:=Ii.o.size;omega) ab)
   have c1:=(HA.o.di rC.o).gW;clear hg sG hbo qN;go_wp2_with fail
   refine HP.o.mono ?_;rintro e u3⟨rfl,sV⟩;have HPP:=O (oO (HH.o.di rC.o) (HA.o.di rC.o) Cs.o sV);have vW:Fr (iu v.k v.kv) u2 u3:=by obtain⟨_,_,h,_⟩:=sV;exact h
   have AZ:=O (vW.keep (tu.o.keep qG.o id) (fun hb=>by
    obtain⟨c,t,e,hk⟩:=(HH.o.di rC.o).book.ij hb;rw[tu.o.keep qG.o id]at e;cases e;revert hk;decide))
   clear sV vW HP c1;go_wp2_with (first|((with_reducible refine cV 46 ?_);refine aG rfl 46 (.tmp 6) (.tmp 44) rfl (w.heap.size+1) #[.int .i64 1,.string ⟨#[]⟩,.int .i64 0] rfl rfl _ bR AZ.o (bf _ rfl) rfl ct ?_)|fail)
   refine aU (bu bC _ _ (w.heap.size+1) 46 #[.int .i64 1,.string ⟨#[]⟩,.int .i64 0] (0,0) _ rfl (aY u3 (w.heap.size+1) _ _ _ _ AZ.o) underlying46 rfl (bf _ rfl)) rfl ?_;unfold eG;rw[HR.o];exact⟨rfl,dy (HPP.o.after rC.o) oY.o oT.o (bV _) AZ.o eL ag _⟩
theorem dm.eB{base:Nat}{w1 w2:World}{B off:Nat}{cs:aX}{v:cU}{p:eD}{XQ:Value}{l:List (gq×Int)}(h:eP base w1 v p)(ha:gP w1 B cs off v)(ou:base<=B)(ho:OwnRows base 105 4 w2 XQ (l.map kY))(hf:Fr (own v.cv) w1 w2)(cQ:∀k,own XQ k->own v.cv k\/w1.heap.size<=k) :
  dm base w1 B cs off v {p with eB:=l} (w2.setCell ⟨B,off+2,none⟩ XQ):=by
 have hB:¬v.jT B:=h.fg ha.eJ ag;have pR:=hf.keep ha.eJ (fun hb=>hB (Or.inr (Or.inr hb)));have mO:rR base w1 (own v.cv):=fun k hk hl=>h.off k (Or.inr (Or.inr hk)) hl;have kx:Fr (one B) w2 (w2.setCell ⟨B,off+2,none⟩ XQ):=(ae (one B) w2).setCell (p:=⟨B,off+2,none⟩) (fun _=>rfl) _;have apz:rR base w2 (one B):=by
  rintro k rfl _;exact⟨ou,fun c f e=>by rw[pR]at e;cases e⟩
 have uA:B<w1.heap.size:=bj ha.eJ;have p2:dD base w2 v.b v.gv v.wv p.bU p.waits:=h.ot.fr hf mO (fun hb=>h.wN (Or.inl rfl) hb) (fun k hk hb=>h.wN (Or.inr (Or.inl hk)) hb) (fun k hk hb=>h.wN (Or.inr (Or.inr hk)) hb);have p3:eN base w2 v.k v.kv p.book:=h.book.fr hf (fun k hk hb=>h.Gi hk hb);refine⟨⟨v.b,v.gv,v.wv,v.k,v.kv,XQ⟩,⟨p2.fr kx apz ?_ ?_ ?_,p3.fr kx ?_,ho.fr kx ?_⟩,?_,?_,?_⟩
 ·intro e;exact hB (Or.inl (by rw[<-show v.b=B from e];exact Or.inl rfl))
 ·intro k hk e;exact hB (Or.inl (by rw[<-show k=B from e];exact Or.inr (Or.inl hk)))
 ·intro k hk e;exact hB (Or.inl (by rw[<-show k=B from e];exact Or.inr (Or.inr hk)))
 ·intro k hk e;exact hB (Or.inr (Or.inl (by rw[<-show k=B from e];exact hk)))
 ·intro k hk e;have e':k=B:=e;subst e';rcases cQ k hk with h1|h1
  ·exact hB (Or.inr (Or.inr h1))
  ·omega
 ·exact(show Fr (zK B v) w1 w2 from hf.mono (fun k _ hk=>Or.inr (Or.inr (Or.inr hk)))).setCell (p:=⟨B,off+2,none⟩) (fun _=>Or.inl rfl) _
 ·rintro k(hk|hk|hk)
  ·exact Or.inl (Or.inl hk)
  ·exact Or.inl (Or.inr (Or.inl hk))
  ·rcases cQ k hk with h1|h1
   ·exact Or.inl (Or.inr (Or.inr h1))
   ·exact Or.inr h1
 ·have e:=b_ pR (off+2) XQ;rw[e];have e2:o8 cs off ⟨v.b,v.gv,v.wv,v.k,v.kv,XQ⟩=cs.set (off+2) XQ:=by
   have:=wP ha.c0 ha.c1 ha.c2;unfold o8 at this ⊢;simp only;have h3:(cs.set off (.pointer (some ⟨v.b,0,none⟩))).set (off+1) (.pointer (some ⟨v.k,0,none⟩))=cs:=by
    apply iY;intro i;by_cases h1:i=off+1
    ·subst h1;rw[List.getElem?_set_self (by simp;exact(List.getElem?_eq_some_iff.1 ha.c1).1),ha.c1]
    rw[List.getElem?_set_ne (kO h1)];by_cases h0:i=off
    ·subst h0;rw[List.getElem?_set_self (List.getElem?_eq_some_iff.1 ha.c0).1,ha.c0]
    rw[List.getElem?_set_ne (kO h0)]
   rw[h3]
  rw[e2];simp
theorem IB(o:gq)(l:List (gq×Int)):(l.map kY).filter (fun x=>!PO o x)=(KX o l).map kY:=by
 unfold KX;rw[List.filter_map];rfl
theorem GD(c:gq×Int):∀u∈kY c,u.oneCell'=true:=by
 intro u hu;unfold kY at hu;simp only[bB,cz,dU]at hu;rcases hu with rfl|rfl|rfl|rfl<;>rfl
theorem Oi(c:gq×Int)(o:gq)(bo:Nat)(w:World)(ho:w.heap[bo]?=some (.cells #[.bool o.aE,.string o.host,.int .i64 o.port] 24 (0,0))) :
  aB 148 #[.agg (kY c).toArray,.pointer (some ⟨bo,0,none⟩)] w fun e w'=>e=.returned (.bool (PO o (kY c)))/\Fr aS w w':=by
 have hC:=O (show PO o (kY c)=c.1.kV o from rfl);have heq:=jo c.1 o;rw[hC.o];unfold kY;have gO:Fr aS w _:=(ae aS w).alloc (.cells #[.bool c.1.aE,.string c.1.host,.int .i64 c.1.port,.int .i64 c.2] 105);have qN:=O (gO.keep ho id);clear hC ho;go_enter func148,ntmps148;go_wp2_with (first|((with_reducible refine dk 6 ?_);refine aI rfl 24 (.tmp 1) rfl bo rfl _ _ (0,0) _ qN.o underlying24 rfl af ?_)|fail)
 go_ret;exact⟨rfl,gO⟩
theorem LL(base:Nat)(w:World)(B off:Nat)(cs:aX)(v:cU)(p:eD)(o:gq)(h:eP base w v p)(ha:gP w B cs off v)(ou:base<=B) :
  aB 90 #[.pointer (some ⟨B,off,none⟩),.agg o.cells.toArray] w fun e w'=>e=.returned (.tuple #[])/\dm base w B cs off v {p with eB:=KX o p.eB} w':=by
 unfold gq.cells;have oW:Fr aS w (w.alloc (.cells #[.bool o.aE,.string o.host,.int .i64 o.port] 24)):=(ae aS w).alloc _;have hbo:=aC w (.cells #[.bool o.aE,.string o.host,.int .i64 o.port] 24);have h1:=h.di oW;have ha1:=ha.di oW;have uA:B<w.heap.size:=bj ha.eJ;have xh:∀k,own v.cv k->k<w.heap.size:=fun k hk=>h.jf (Or.inr (Or.inr hk))
 have hd:=E' base 148 #[.pointer (some ⟨w.heap.size,0,none⟩)] (PO o) v.cv (p.eB.map kY) _ call148 (fun x hx u hu=>by
  obtain⟨c,_,rfl⟩:=bZ.1 hx;exact Oi c o w.heap.size u (hu.keep hbo (fun hk=>by have:=xh _ hk;omega))) h1.eB
 rw[IB,ai]at hd;have c2:=ha1.lO;have f2:=ha1.free (off+2);obtain⟨av,cv,hcv⟩:=h1.eB.form;rw[ai]at hcv;rw[hcv]at c2 hd;have wY:=O hcv;have HD:=O hd;have H1:=O h1;have HA1:=O ha1;have EC:=O oW;have Gr:¬v.jT B:=h.fg ha.eJ ag;have Cs:=O Gr;clear h ha hbo h1 ha1 hd hcv oW Gr f2 xh;go_enter func90,ntmps90;go_wp2_with fail
 refine HD.o.mono ?_;rintro e w2⟨a2,c2',rfl,qN,dz,fA⟩;rw[<-wY.o]at dz fA;have HP:=O (dm.eB H1.o HA1.o ou qN dz (fun k hk=>Or.inl (by rw[<-fA];exact hk)));have Wg:=dz.keep HA1.o.eJ (fun hb=>Cs.o (Or.inr (Or.inr hb)));have d2:w2.cell? ⟨B,off+2,none⟩=some (.slice av p.eB.length cv):=by
  have e:=HA1.o.c2;rw[wY.o]at e;simp[World.cell?,Wg,e]
 have e2:w2.frozen? ⟨B,off+2,none⟩=false:=by simp[World.frozen?,Wg]
 clear HD c2 qN dz fA Wg;go_wp2;go_end0;exact⟨rfl,HP.o.after EC.o⟩
theorem tT{P:Program}{ops:Array Oper}{rest:List Oper}{o:Oper}{a:Act}{w:World}{Q:Exit->Act->World->Prop}(hw:Region.wanted o (yielded ops a.tmps)=true)(ty:TypeId)(x:Operand)(ho:o.op=.load ty x)
  (g:Nat)(hx:a.eval x=.pointer (some ⟨g,0,none⟩))(t:TypeId)(cs:bS)(fr:Nat×Nat)(d:TypeDesc)(hg:w.heap[g]?=some (.cells cs t fr))
  (hu:P.underlying ty=some d)(hd:(match d with| .struct _| .array _ _=>true|_=>false)=true)(hi:(P.info? ty).map (·.size)=some cs.size)
  (h:wpList P ops Q rest (a.put o.dst (.agg cs)) w):wpList P ops Q (o :: rest) a w :=
 Go.BigFrame.wpList_want hw fun _ hK=>wp_load_row ty x ho g hx t cs fr d hg hu hd hi (hK _ _ h)
theorem xC{P:Program}{ops:Array Oper}{rest:List Oper}{o:Oper}{a:Act}{w:World}{Q:Exit->Act->World->Prop}(hg:o.guard=none)(t e:TypeId)(len:Nat)(parts:Array (Nat×Operand))(ho:o.op=.buildSlice t len parts)(dst:Option Tmp)(Oy:o.dst=dst)
  (cells:bS)(ie:TypeInfo)(z:Value)(vs:List (Nat×Value))(he:(parts.map fun(i,x)=>(i,a.eval x)).toList=vs)
  (hu:P.underlying t=some (.slice e))(hie:P.info? e=some ie)(hz:ie.zero=some z)(G8:¬len*ie.size>2^24)(pU:¬len*ie.size=0)
  (hf:Instr.fill (fun i=>some (i*ie.size,ie.size)) ((Array.range (len*ie.size)).map (z.cells[· %z.cells.size]!)) vs=some cells)(N:Nat)(hN:w.heap.size=N)
  (h:wpList P ops Q rest (a.put dst (.slice (some ⟨N,0,none⟩) len len)) (w.alloc (.cells cells e))):wpList P ops Q (o :: rest) a w:=by
 subst Oy hN;exact wpList_buildSlice hg t e len parts ho cells ie z hu hie hz G8 pU (by rw[he];exact hf) h
theorem WS:(prog.info? 33).map (fun i=>(i.zero,i.size,i.bytes))=some (some (.agg zOp),22,272):=af
theorem ae'(o:jz)(ah:eQ)(nh ch:Nat):Instr.fill (fun i=>some (i*22,22)) ((Array.range (1*22)).map ((Value.agg zOp).cells[· %(Value.agg zOp).cells.size]!)) [(0,.agg #[.int .i64 o.what,.int .i64 o.aJ.part,.bool o.aJ.cW.aE,.string o.aJ.cW.host,.int .i64 o.aJ.cW.port,.bool o.aJ.o.aE,.string o.aJ.o.host,.int .i64 o.aJ.o.port,.string o.aJ.path,.string o.aJ.query,.string o.aJ.method,.slice ah nh ch,.bool o.aJ.fN,.string o.aJ.body,.bool o.proxy,.string o.text,.string o.user,.string o.pass,.string o.bK,.int .i64 o.cert,.bool o.all,.int .i64 o.n])]=some #[.int .i64 o.what,.int .i64 o.aJ.part,.bool o.aJ.cW.aE,.string o.aJ.cW.host,.int .i64 o.aJ.cW.port,.bool o.aJ.o.aE,.string o.aJ.o.host,.int .i64 o.aJ.o.port,.string o.aJ.path,.string o.aJ.query,.string o.aJ.method,.slice ah nh ch,.bool o.aJ.fN,.string o.aJ.body,.bool o.proxy,.string o.text,.string o.user,.string o.pass,.string o.bK,.int .i64 o.cert,.bool o.all,.int .i64 o.n]:=af
theorem afa(o:jz){n:Nat}(hh:o.aJ.en=.slice ah n ch):∀u∈o.cells,u.oneCell'=true:=by
 unfold jz.cells gl.cells;rw[hh];intro u hu;simp only[List.cons_append,List.nil_append,bB,cz,dU]at hu;rcases hu with rfl|rfl|rfl|rfl|rfl|rfl|rfl|rfl|rfl|rfl|rfl|rfl|rfl|rfl|rfl|rfl|rfl|rfl|rfl|rfl|rfl|rfl<;>rfl
