/- Lemmas for the law's walk. -/
import Derived.Test.YtnckmcnffadjoaaGreatDoorPk24
set_option maxRecDepth 100000
set_option maxHeartbeats 16000000
set_option linter.unusedSimpArgs false
namespace Go.Proofs.YtnckmcnffadjoaaGreatDoor
open Go.Proofs.Tryz
open Go.RowKit
variable {w W:World} {k n m:Nat} {t t':fD} {s:dx} {f:Nat->Nat->Int}
theorem SU(o:iz):(cJ o).1=0\/(cJ o).1=1\/(cJ o).1=4\/(cJ o).1=7\/(cJ o).1=8\/(cJ o).1=10:=by
 unfold cJ;split
 ·split
  ·simp
  ·split
   ·simp
   ·split
    ·simp
    ·split
     ·simp
     ·split
      ·simp
      ·split<;>simp
 ·simp
theorem lh.take{x f:dx}(h:lh x)(g:lh f)(part:Int)(c:Nat):lh (j8 x f part c):=by
 unfold j8;split
 ·refine⟨⟨fun k=>?_,?_⟩,fun k=>?_,fun k=>?_⟩
  ·show nr (if k=part.toNat then iR c (x.part k) (f.part k)else x.part k);have a:=h.ok.part k;have b:=g.ok.part k;split
   ·unfold iR;cases c.testBit 0<;>cases c.testBit 1<;>cases c.testBit 2<;>exact⟨by first|exact a.uniq|exact b.uniq,by first|exact a.nat|exact b.nat,by first|exact a.tG.1|exact b.tG.1,by first|exact a.tG.2.1|exact b.tG.2.1,by first|exact a.tG.2.2.1|exact b.tG.2.2.1,by first|exact a.tG.2.2.2|exact b.tG.2.2.2⟩
   ·exact a
  ·show 0<=(if c.testBit 3=true then f.now else x.now)/\(if c.testBit 3=true then f.now else x.now)<=1099511627776;split
   ·exact g.ok.now
   ·exact h.ok.now
  ·show rY (if k=part.toNat then iR c (x.part k) (f.part k)else x.part k);have a:=h.sm k;have b:=g.sm k;split
   ·unfold iR;cases c.testBit 0<;>exact⟨by first|exact a.bF|exact b.bF,by first|exact a.waits|exact b.waits⟩
   ·exact a
  ·show mH (if k=part.toNat then iR c (x.part k) (f.part k)else x.part k);have a:=h.path k;have b:=g.path k;split
   ·unfold iR;cases c.testBit 0
    ·exact fun y hy=>a y hy
    ·exact fun y hy=>b y hy
   ·exact a
 ·exact h
def Pg(n i:Nat):cU:=⟨n+1+2*i,.slice none 0 0,.slice none 0 0,n+2+2*i,.slice none 0 0,.slice none 0 0⟩
def aba(n k i:Nat):List Value:=if i<k then(Pg n i).cells else [.pointer none,.pointer none,.slice none 0 0]
def Tc(n k:Nat):List Value:=aba n k 0++(aba n k 1++(aba n k 2++(aba n k 3++[.int .i64 0])))
structure ET (w:World) (k:Nat) (W:World):Prop where
 fr:Fr aR w W
 eI:W.heap[w.heap.size]?=some (.cells (Tc w.heap.size k).toArray 86 (0,0))
 oC:∀i,i<k->W.heap[w.heap.size+1+2*i]?=some (.cells #[.slice none 0 0,.slice none 0 0] 89 (0,0))
 book:∀i,i<k->W.heap[w.heap.size+2+2*i]?=some (.cells #[.slice none 0 0] 92 (0,0))
 size:W.heap.size=w.heap.size+1+2*k
theorem Td(n k:Nat)(hk:k<4):(((Tc n k).set (k*3) (.pointer (some ⟨n+1+2*k,0,none⟩))).set (k*3+1) (.pointer (some ⟨n+2+2*k,0,none⟩))).set (k*3+2) (.slice none 0 0)=Tc n (k+1):=by
 match k,hk with
 |0,_=>rfl
 |1,_=>rfl
 |2,_=>rfl
 |3,_=>rfl
theorem ET.step(h:ET w k W)(hk:k<4):ET w (k+1) (((((W.alloc (.cells #[.slice none 0 0,.slice none 0 0] 89)).alloc (.cells #[.slice none 0 0] 92)).setCell ⟨w.heap.size,k*3,none⟩ (.pointer (some ⟨W.heap.size,0,none⟩))).setCell ⟨w.heap.size,k*3+1,none⟩ (.pointer (some ⟨W.heap.size+1,0,none⟩))).setCell ⟨w.heap.size,k*3+2,none⟩ (.slice none 0 0)):=by
 obtain⟨V,hV⟩:∃V,V=(W.alloc (.cells #[.slice none 0 0,.slice none 0 0] 89)).alloc (.cells #[.slice none 0 0] 92):=⟨_,rfl⟩;have hf:Fr aR W V:=by rw[hV];exact((ae aR W).alloc _).alloc _
 have xW:V.heap[W.heap.size]?=some (.cells #[.slice none 0 0,.slice none 0 0] 89 (0,0)):=by rw[hV];exact((ae aR _).alloc _).keep (aB _ _) id
 have NU:V.heap[W.heap.size+1]?=some (.cells #[.slice none 0 0] 92 (0,0)):=by
  have h:=aB (W.alloc (.cells #[.slice none 0 0,.slice none 0 0] 89)) (.cells #[.slice none 0 0] 92);rw[bM]at h;rw[hV];exact h
 have hvs:V.heap.size=W.heap.size+2:=by rw[hV];simp
 rw[<-hV];have qe:=hf.keep h.eI id;have Fl:Fr (one w.heap.size) V (((V.setCell ⟨w.heap.size,k*3,none⟩ (.pointer (some ⟨W.heap.size,0,none⟩))).setCell ⟨w.heap.size,k*3+1,none⟩ (.pointer (some ⟨W.heap.size+1,0,none⟩))).setCell ⟨w.heap.size,k*3+2,none⟩ (.slice none 0 0)) :=
  (((ae (one w.heap.size) V).setCell (p:=⟨w.heap.size,k*3,none⟩) (fun _=>rfl) _).setCell (p:=⟨w.heap.size,k*3+1,none⟩) (fun _=>rfl) _).setCell (p:=⟨w.heap.size,k*3+2,none⟩) (fun _=>rfl) _
 have e1:=b_ qe (k*3) (.pointer (some ⟨W.heap.size,0,none⟩));have e2:=b_ e1 (k*3+1) (.pointer (some ⟨W.heap.size+1,0,none⟩));have e3:=b_ e2 (k*3+2) (.slice none 0 0);have xM:=h.size;have Qh:=Td w.heap.size k hk;rw[show w.heap.size+1+2*k=W.heap.size from ab,show w.heap.size+2+2*k=W.heap.size+1 from ab]at Qh;refine⟨?_,?_,fun i hi=>?_,fun i hi=>?_,?_⟩
 ·exact(((h.fr.trans hf).gI (p:=⟨w.heap.size,k*3,none⟩) (ay _) _).gI (p:=⟨w.heap.size,k*3+1,none⟩) (ay _) _).gI (p:=⟨w.heap.size,k*3+2,none⟩) (ay _) _
 ·rw[e3, <-Qh];simp
 ·refine Fl.keep ?_ (fun e=>by have e':w.heap.size+1+2*i=w.heap.size:=e;omega);by_cases MW:i<k
  ·exact hf.keep (h.oC i MW) id
  ·rw[show w.heap.size+1+2*i=W.heap.size from ab];exact xW
 ·refine Fl.keep ?_ (fun e=>by have e':w.heap.size+2+2*i=w.heap.size:=e;omega);by_cases MW:i<k
  ·exact hf.keep (h.book i MW) id
  ·rw[show w.heap.size+2+2*i=W.heap.size+1 from ab];exact NU
 ·have e:(((V.setCell ⟨w.heap.size,k*3,none⟩ (.pointer (some ⟨W.heap.size,0,none⟩))).setCell ⟨w.heap.size,k*3+1,none⟩ (.pointer (some ⟨W.heap.size+1,0,none⟩))).setCell ⟨w.heap.size,k*3+2,none⟩ (.slice none 0 0)).heap.size=V.heap.size:=by simp[World.setCell]
  rw[e];omega
theorem ET.done{base:Nat}(h:ET w 4 W)(hb:base<=w.heap.size):cz base W w.heap.size (Pg w.heap.size) yN:=by
 refine⟨hb,h.eI,fun i hi=>⟨⟨?_,h.oC i hi,⟨[],dv _ _ _ _,.nil⟩,⟨[],dv _ _ _ _,.nil⟩⟩,⟨?_,h.book i hi,dv _ _ _ _⟩,dv _ _ _ _⟩,fun i j hi hj Q8 k hk NK=>?_⟩
 ·show base<=w.heap.size+1+2*i;omega
 ·show base<=w.heap.size+2+2*i;omega
 ·have key:∀a,(Pg w.heap.size a).ke k->k=w.heap.size+1+2*a\/k=w.heap.size+2+2*a:=by
   rintro a(q|q|q)
   ·rcases q with q|q|q
    ·exact Or.inl q
    ·simp[Pg,own,Value.ownBlock]at q
    ·simp[Pg,own,Value.ownBlock]at q
   ·rcases q with q|q
    ·exact Or.inr q
    ·simp[Pg,own,Value.ownBlock]at q
   ·simp[Pg,own,Value.ownBlock]at q
  have h1:=key i hk;have h2:=key j NK;omega
def akI(w:World)(t:Value)(wr:World):Prop:=∃k:Nat,k<=4/\t=.int .i64 k/\ET w k wr
theorem Jt(w:World):Calls prog 13 #[] w fun e w'=>∃B pv,e=.returned (.pointer (some ⟨B,0,none⟩))/\(∀base,base<=w.heap.size->cz base w' B pv yN)/\Fr aR w w':=by
 have h0:ET w 0 (w.alloc (.cells #[.pointer none,.pointer none,.slice none 0 0,.pointer none,.pointer none,.slice none 0 0,.pointer none,.pointer none,.slice none 0 0,.pointer none,.pointer none,.slice none 0 0,.int .i64 0] 86)) :=
  ⟨(ae aR w).alloc _,aB _ _,fun i hi=>absurd hi (bS i),fun i hi=>absurd hi (bS i),aQ⟩
 have H0:=O h0;clear h0;go_enter func13,ntmps13;go_wp2_with fail
 go_loopw[5] (akI w) (fun i _=>4-(intOf i).toNat)
 case atStart=>exact⟨0,aI _,rfl,H0.o⟩
 case round =>
  obtain⟨k,hk,rfl,hn⟩:=hrel;by_cases eX:k<4
  ·have py:(k:Int)<4:=ab;have HN:=O (hn.step eX);have hb:=hn.eI;have Cp:w.heap.size<wr.heap.size:=bj hb;have Om:¬(k:Int)<0:=ab;have aps:(0:Int)<=(k:Int):=ab;have Mz:=(((ae aR wr).alloc (.cells #[.slice none 0 0,.slice none 0 0] 89)).alloc (.cells #[.slice none 0 0] 92)).keep hb id
   obtain⟨q0,q1,q2⟩:(Tc w.heap.size k)[k*3]?=some (.pointer none)/\(Tc w.heap.size k)[k*3+1]?=some (.pointer none)/\(Tc w.heap.size k)[k*3+2]?=some (.slice none 0 0):=by
    match k,eX with
    |0,_=>exact⟨rfl,rfl,rfl⟩
    |1,_=>exact⟨rfl,rfl,rfl⟩
    |2,_=>exact⟨rfl,rfl,rfl⟩
    |3,_=>exact⟨rfl,rfl,rfl⟩
   have c0:((wr.alloc (.cells #[.slice none 0 0,.slice none 0 0] 89)).alloc (.cells #[.slice none 0 0] 92)).cell? ⟨w.heap.size,k*3,none⟩=some (.pointer none):=by simp[World.cell?,Mz,q0]
   have c1:((wr.alloc (.cells #[.slice none 0 0,.slice none 0 0] 89)).alloc (.cells #[.slice none 0 0] 92)).cell? ⟨w.heap.size,k*3+1,none⟩=some (.pointer none):=by simp[World.cell?,Mz,q1]
   have c2:((wr.alloc (.cells #[.slice none 0 0,.slice none 0 0] 89)).alloc (.cells #[.slice none 0 0] 92)).cell? ⟨w.heap.size,k*3+2,none⟩=some (.slice none 0 0):=by simp[World.cell?,Mz,q2]
   have f0:∀j,((wr.alloc (.cells #[.slice none 0 0,.slice none 0 0] 89)).alloc (.cells #[.slice none 0 0] 92)).frozen? ⟨w.heap.size,j,none⟩=false:=fun j=>by simp[World.frozen?,Mz]
   have f1:=f0 (k*3);have f2:=f0 (k*3+1);have f3:=f0 (k*3+2);have hx:=HN;clear hn H0 Mz q0 q1 q2 f0 hb;go_wp2_with (first|((with_reducible refine cV 83 ?_);have O5:=hx;clear hx O5;generalize (wr.alloc (.cells #[.slice none 0 0,.slice none 0 0] 89)).alloc (.cells #[.slice none 0 0] 92)=W5 at *)|fail)
   go_roundw
   case rel=>exact⟨k+1,ab,a_,HN.o⟩
   case measure=>simp[intOf];omega
  ·have KP:k=4:=ab;subst KP;have HD:=O (fun base hb=>hn.done (base:=base) hb);have sx:=O hn.fr;clear hn H0;go_wp2;go_ret;exact⟨_,_,rfl,HD.o,sx.o⟩
theorem Xv(p:dM)(now:Int)(o:iz):(sF p now o).2.what≠6:=by
 have k1:(1:Int)≠6:=ag;have k2:(2:Int)≠6:=ag;have k3:(3:Int)≠6:=ag;have k7:(7:Int)≠6:=ag;unfold sF;split
 ·unfold iw;split
  ·(first|exact k2|exact k1|exact k3|exact k7)
  ·split<;>(first|exact k2|exact k1|exact k3|exact k7)
 ·split
  ·unfold fJ;split
   ·(first|exact k2|exact k1|exact k3|exact k7)
   ·split
    ·split<;>(first|exact k2|exact k1|exact k3|exact k7)
    ·(first|exact k2|exact k1|exact k3|exact k7)
  ·split
   ·unfold fV;split<;>(first|exact k2|exact k1|exact k3|exact k7)
   ·split
    ·show(if _ then(5:Int)else 4)≠6;split<;>decide
    ·split
     ·unfold gP;split
      ·(first|exact k2|exact k1|exact k3|exact k7)
      ·split<;>(first|exact k2|exact k1|exact k3|exact k7)
     ·split
      ·unfold G5;split<;>(first|exact k2|exact k1|exact k3|exact k7)
      ·split
       ·unfold jR;split<;>(first|exact k2|exact k1|exact k3|exact k7)
       ·unfold pA;split
        ·(first|exact k2|exact k1|exact k3|exact k7)
        ·split<;>(first|exact k2|exact k1|exact k3|exact k7)
theorem MD(w:dx)(o:iz):(iC w o).2.what≠6:=by
 have k1:(1:Int)≠6:=ag;have k7:(7:Int)≠6:=ag;cases hr:o.right
 ·rw[th hr];exact k7
 ·by_cases hw:o.what=10
  ·rw[rX hr hw];split<;>(first|exact k1|exact k7)
  ·rw[qt hr hw];exact Xv _ _ _
structure ou (t:fD):Prop where
 lin:t.w=ve t.cX
 ok:∀k e,t.cX[k]?=some e->e.dI.what≠6->(iC (ve (t.cX.take k)) e.op).2=e.dI
 read:∀n,(t.tab n).does=2->vR t (t.tab n).seen (t.tab n).num
 work:∀n,(t.tab n).does=3->∃s,vR t s (t.tab n).num/\(t.tab n).seen=(iC s (t.tab n).op).1/\(t.tab n).dI=(iC s (t.tab n).op).2
theorem ou.new:ou sa:=⟨rfl,fun k e h=>(by cases h),fun n h=>(by cases h),fun n h=>(by cases h)⟩
theorem vR.same(h:vR t s f)(hw:t'.w=t.w)(hn:t'.num=t.num):vR t' s f:=by
 unfold vR at h ⊢;rw[hw,hn];exact h
theorem ou.quiet{t t':fD}(h:ou t)(hw:t'.w=t.w)(hn:t'.num=t.num)(hs:t'.cX=t.cX)(m:Nat)(hm:∀n,n≠m->t'.tab n=t.tab n)
  (hr:(t'.tab m).does=2->vR t (t'.tab m).seen (t'.tab m).num)(hk:(t'.tab m).does=3->∃s,vR t s (t'.tab m).num/\(t'.tab m).seen=(iC s (t'.tab m).op).1/\(t'.tab m).dI=(iC s (t'.tab m).op).2):ou t':=by
 refine⟨by rw[hw,hs];exact h.lin,by rw[hs];exact h.ok,fun n hd=>?_,fun n hd=>?_⟩
 ·by_cases e:n=m
  ·subst e;exact(hr hd).same hw hn
  ·rw[hm n e]at hd ⊢; exact(h.read n hd).same hw hn
 ·by_cases e:n=m
  ·subst e;obtain⟨s,g1,g2⟩:=hk hd;exact⟨s,g1.same hw hn,g2⟩
  ·rw[hm n e]at hd ⊢; obtain⟨s,g1,g2⟩:=h.work n hd;exact⟨s,g1.same hw hn,g2⟩
theorem gi(t:fD)(n:Nat)(x:vd):(t.put n x).tab n=x:=by unfold fD.put;simp
theorem ix(t:fD)(x:vd)(h:m≠n):(t.put n x).tab m=t.tab m:=by unfold fD.put;simp[h]
theorem vR.now(t:fD):vR t t.w t.num:=fun _ _=>⟨fG _,fun _ _=>se.refl _ _ _⟩
theorem vR.bump{o:iz}(h:vR t s f)(hw:t'.w=(iC t.w o).1)(hn:t'.num=Av o t.num):vR t' s f:=by
 intro p i;rw[hw,hn];unfold Av;obtain⟨h1,h2⟩:=h p i;split
 ·exact⟨ab,fun e=>ab⟩
 ·rename_i hni;exact⟨h1,fun e hi=>(h2 e hi).trans (OJ t.w o hi hni)⟩
theorem mM(t:fD)(n:Nat)(r:kx)(h:m≠n):(ja t n r).tab m=t.tab m:=by unfold ja;simp[h]
theorem pd(t:fD)(n:Nat)(r:kx):(ja t n r).tab n=fe:=by unfold ja;simp
theorem take_len{α:Type}(l:List α)(e:α){x:α}(h:(l++[e])[k]?=some x):(l[k]?=some x/\(l++[e]).take k=l.take k)\/(k=l.length/\x=e/\(l++[e]).take k=l):=by
 rcases eM k l.length with hk|hk
 ·left;rw[List.getElem?_append_left hk]at h;exact⟨h,by rw[List.take_append_of_le_length (Nat.le_of_lt hk)]⟩
 ·right;rw[List.getElem?_append_right hk]at h;have Nv:k-l.length=0:=by
   rcases Nat.eq_zero_or_pos (k-l.length)with e0|e0
   ·exact e0
   ·rw[List.getElem?_eq_none bG]at h;cases h
  rw[Nv]at h;have e1:e=x:=by simpa using h
  have e2:k=l.length:=ab;subst e2;exact⟨rfl,e1.symm,aQ⟩
theorem ou.O8(h:ou t)(hs:vR t s (t.tab n).num)(akJ:(t.tab n).seen=(iC s (t.tab n).op).1)(aqq:(t.tab n).dI=(iC s (t.tab n).op).2)(hv:vA (t.tab n).op t.num=vA (t.tab n).op (t.tab n).num) :
  ou (ja (if(cJ (t.tab n).op).2 then{t with w:=j8 t.w (t.tab n).seen (t.tab n).op.part (cJ (t.tab n).op).1,num:=Av (t.tab n).op t.num}else t) n (t.tab n).dI):=by
 obtain⟨a1,a2⟩:=SB (hs.agree hv);have acT:(t.tab n).dI=(iC t.w (t.tab n).op).2:=aqq.trans a1;have h6:(t.tab n).dI.what≠6:=by rw[acT];exact MD _ _
 have Xw:∀t':fD,t'.cX=t.cX->t'.tab=t.tab->t'.steps=t.steps->(ja t' n (t.tab n).dI).cX=t.cX++[⟨n,(t.tab n).op,(t.tab n).dI,(t.tab n).gG,t.steps⟩]:=fun t' e1 e2 e3=>by unfold ja;rw[e1,e2,e3]
 have Bf:∀k e,(t.cX++[(⟨n,(t.tab n).op,(t.tab n).dI,(t.tab n).gG,t.steps⟩:xK)])[k]?=some e->e.dI.what≠6->(iC (ve ((t.cX++[(⟨n,(t.tab n).op,(t.tab n).dI,(t.tab n).gG,t.steps⟩:xK)]).take k)) e.op).2=e.dI:=by
  intro k e he hne;rcases take_len _ _ he with ⟨h1,h2⟩|⟨_,rfl,h2⟩
  ·rw[h2];exact h.ok k e h1 hne
  ·rw[h2, <-h.lin];exact acT.symm
 cases hwr:(cJ (t.tab n).op).2
 ·rw[aq ag];refine⟨?_,?_,fun m hd=>?_,fun m hd=>?_⟩
  ·rw[Xw t rfl rfl rfl,xB,aq h6, <-h.lin,OI hwr];rfl
  ·rw[Xw t rfl rfl rfl];exact Bf
  ·by_cases e:m=n
   ·subst e;rw[pd]at hd;cases hd
   ·rw[mM _ _ _ e]at hd ⊢; exact(h.read m hd).same rfl rfl
  ·by_cases e:m=n
   ·subst e;rw[pd]at hd;cases hd
   ·rw[mM _ _ _ e]at hd ⊢; obtain⟨s',g1,g2⟩:=h.work m hd;exact⟨s',g1.same rfl rfl,g2⟩
 ·rw[az rfl];have hw':j8 t.w (t.tab n).seen (t.tab n).op.part (cJ (t.tab n).op).1=(iC t.w (t.tab n).op).1:=by rw[akJ];exact a2 hwr
  refine⟨?_,?_,fun m hd=>?_,fun m hd=>?_⟩
  ·show j8 t.w _ _ _=ve (t.cX++[_]);rw[xB,aq h6, <-h.lin];exact hw'
  ·exact Bf
  ·by_cases e:m=n
   ·subst e;rw[pd]at hd;cases hd
   ·rw[mM _ _ _ e]at hd ⊢; exact(h.read m hd).bump (o:=(t.tab n).op) hw' rfl
  ·by_cases e:m=n
   ·subst e;rw[pd]at hd;cases hd
   ·rw[mM _ _ _ e]at hd ⊢; obtain⟨s',g1,g2⟩:=h.work m hd;exact⟨s',g1.bump (o:=(t.tab n).op) hw' rfl,g2⟩
theorem ou.busy(h:ou t)(n:Nat)(x:vd):ou (ja (t.put n x) n (rep 6)):=by
 obtain⟨e0,h0,h6⟩:∃e0,(ja (t.put n x) n (rep 6)).cX=t.cX++[e0]/\e0.dI.what=6:=⟨_,rfl,rfl⟩;refine⟨?_,?_,fun m hd=>?_,fun m hd=>?_⟩
 ·rw[h0,xB,az h6];exact h.lin
 ·rw[h0];intro k e he hne;rcases take_len _ _ he with ⟨h1,h2⟩|⟨_,rfl,h2⟩
  ·rw[h2];exact h.ok k e h1 hne
  ·exact absurd h6 hne
 ·by_cases e:m=n
  ·subst e;rw[pd]at hd;cases hd
  ·rw[mM _ _ _ e,ix _ _ e]at hd ⊢; exact(h.read m hd).same rfl rfl
 ·by_cases e:m=n
  ·subst e;rw[pd]at hd;cases hd
  ·rw[mM _ _ _ e,ix _ _ e]at hd ⊢; obtain⟨s',g1,g2⟩:=h.work m hd;exact⟨s',g1.same rfl rfl,g2⟩
theorem ou.tick(h:ou t)(k:Int):ou {t with steps:=k}:=⟨h.lin,h.ok,h.read,h.work⟩
theorem ou.step(h:ou t)(hd:(t.tab n).does=1\/(t.tab n).does=2\/(t.tab n).does=3):ou (stepT t n).1:=by
 unfold stepT;by_cases h1:(t.tab n).does=1
 ·rw[az h1];refine h.quiet rfl rfl rfl n (fun m e=>ix t _ e) (fun _=>?_) (fun e=>?_)
  ·show vR t ((t.put n _).tab n).seen ((t.put n _).tab n).num;rw[gi];exact vR.now t
  ·rw[show({(t.put n {t.tab n with seen:=t.w,num:=t.num,does:=2})with steps:=t.steps+1}:fD).tab n=_ from gi t n _]at e;cases e
 rw[aq h1];by_cases h2:(t.tab n).does=2
 ·rw[az h2];refine h.quiet rfl rfl rfl n (fun m e=>ix t _ e) (fun e=>?_) (fun _=>?_)
  ·rw[show({(t.put n {t.tab n with dI:=(iC (t.tab n).seen (t.tab n).op).2,seen:=(iC (t.tab n).seen (t.tab n).op).1,does:=3})with steps:=t.steps+1}:fD).tab n=_ from gi t n _]at e;cases e
  ·rw[show({(t.put n {t.tab n with dI:=(iC (t.tab n).seen (t.tab n).op).2,seen:=(iC (t.tab n).seen (t.tab n).op).1,does:=3})with steps:=t.steps+1}:fD).tab n=_ from gi t n _];exact⟨(t.tab n).seen,h.read n h2,rfl,rfl⟩
 rw[aq h2];have h3:(t.tab n).does=3:=ab;obtain⟨s,g1,g2,g3⟩:=h.work n h3;unfold iT;have ht:=h.tick (t.steps+1);split
 ·rename_i hv;exact ht.O8 (n:=n) (s:=s) (g1.same rfl rfl) g2 g3 hv
 ·split
  ·refine ht.quiet rfl rfl rfl n (fun m e=>ix _ _ e) (fun e=>?_) (fun e=>?_)
   ·rw[gi]at e;cases e
   ·rw[gi]at e;cases e
  ·exact ht.busy n _
def xe(t:fD):Prop:=∀n,(t.tab n).does<=3
theorem xe.new:xe sa:=fun _=>aI _
theorem xe.put(h:xe t)(n:Nat){x:vd}(hx:x.does<=3):xe (t.put n x):=fun m=>by
 by_cases e:m=n
 ·subst e;rw[gi];exact hx
 ·rw[ix _ _ e];exact h m
theorem xe.ends(h:xe t)(n:Nat)(r:kx):xe (ja t n r):=fun m=>by
 by_cases e:m=n
 ·subst e;rw[pd];exact aI _
 ·rw[mM _ _ _ e];exact h m
theorem xe.step(h:xe t)(n:Nat):xe (stepT t n).1:=by
 unfold stepT;split
 ·exact fun m=>h.put n (x:={t.tab n with seen:=t.w,num:=t.num,does:=2}) (show 2<=3 from ag) m
 ·split
  ·exact fun m=>h.put n (x:={t.tab n with dI:=(iC (t.tab n).seen (t.tab n).op).2,seen:=(iC (t.tab n).seen (t.tab n).op).1,does:=3}) (show 3<=3 from ag) m
  ·unfold iT;split
   ·split
    ·exact xe.ends (t:={t with steps:=t.steps+1,w:=_,num:=_}) h n _
    ·exact xe.ends (t:={t with steps:=t.steps+1}) h n _
   ·split
    ·exact fun m=>h.put n (x:={t.tab n with fails:=(t.tab n).fails+1,does:=1}) (show 1<=3 from ag) m
    ·exact xe.ends (xe.put (t:={t with steps:=t.steps+1}) h n (x:={t.tab n with fails:=(t.tab n).fails+1}) (h n)) n _
def pU(t:fD):Prop:=ou t/\xe t
theorem pU.begin(h:pU t)(n:Int)(o:iz):pU (yS t n o).1:=by
 unfold yS;split
 ·split
  ·refine⟨h.1.quiet rfl rfl rfl n.toNat (fun m e=>ix t _ e) (fun e=>?_) (fun e=>?_),fun m=>h.2.put n.toNat (x:={fe with does:=1,op:=o,gG:=t.steps+1}) (show 1<=3 from ag) m⟩
   ·rw[show({(t.put n.toNat {fe with does:=1,op:=o,gG:=t.steps+1})with steps:=t.steps+1}:fD).tab n.toNat=_ from gi t _ _]at e;cases e
   ·rw[show({(t.put n.toNat {fe with does:=1,op:=o,gG:=t.steps+1})with steps:=t.steps+1}:fD).tab n.toNat=_ from gi t _ _]at e;cases e
  ·exact h
 ·exact h
theorem pU.cancel(h:pU t)(n:Int):pU (nM t n).1:=by
 unfold nM;split
 ·split
  ·exact h
  ·refine⟨h.1.quiet rfl rfl rfl n.toNat (fun m e=>ix t _ e) (fun e=>?_) (fun e=>?_),fun m=>h.2.put n.toNat (x:=fe) (show 0<=3 from ag) m⟩
   ·rw[show({(t.put n.toNat fe)with steps:=t.steps+1}:fD).tab n.toNat=_ from gi t _ _]at e;cases e
   ·rw[show({(t.put n.toNat fe)with steps:=t.steps+1}:fD).tab n.toNat=_ from gi t _ _]at e;cases e
 ·exact h
theorem pU.step(h:pU t)(n:Int):pU (lC t n).1:=by
 unfold lC;split
 ·split
  ·exact h
  ·rename_i hd;have:=h.2 n.toNat;exact⟨h.1.step ab,h.2.step n.toNat⟩
 ·exact h
theorem pU.move(h:pU t)(m:Sz):pU (qT t m):=by
 unfold qT;split
 ·exact h.begin _ _
 ·split
  ·exact h.cancel _
  ·split
   ·exact h.step _
   ·exact h
structure tA where
 kind:Int
 tab:Int
 o:jG
 hs:List gZ
def tA.cells(m:tA):List Value:=.int .i64 m.kind :: .int .i64 m.tab :: m.o.cells
