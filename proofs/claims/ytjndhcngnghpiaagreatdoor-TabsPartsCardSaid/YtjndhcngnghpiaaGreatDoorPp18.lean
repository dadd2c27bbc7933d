/- Lemmas for the law's walk. -/
import Derived.Test.YtjndhcngnghpiaaGreatDoorPp17
set_option maxRecDepth 100000
set_option maxHeartbeats 16000000
set_option linter.unusedSimpArgs false
namespace Go.Proofs.YtjndhcngnghpiaaGreatDoor
open Go.Proofs.Tryz
open Go.RowKit
variable {base B n m i:Nat} {w V a U:World} {pv:Nat->dn} {x:ed} {xw:Option (Nat×ed)} {sb:Nat->Nat} {t t':iI} {c:bW} {e:TypeId} {v:jI×List gT} {o:jx} {sv:Value} {l:List UB} {q:dn} {hs:List gT} {k:Int}
theorem QB(base:Nat)(w:World)(B:Nat)(pv:Nat->dn)(x:ed)(o:jI)(hs:List gT)(h:di base w B pv x)(hf:gM w o hs)(hi:nk x)(a:World)(sL:kZ a)(qk:a.heap.size<=base)(sM:Fr aX a w)(hr:(o.dX hs).right=true)(hw:o.what=7) :
  aE 30 #[.pointer (some ⟨B,0,none⟩),.agg o.cells.toArray] w (jM base w B pv (nj x (o.dX hs))):=by
 have uo:B<w.heap.size:=h.lt;have oX:=h.low;obtain⟨ah,ch,gu⟩:=hf.h_;obtain⟨w2,eC⟩:∃w2,w2=(w.alloc (.cells o.cells.toArray 33)).alloc (.cells bP 46):=⟨_,rfl⟩;have dF:Fr aX w w2:=by rw[eC];exact((ae aX w).alloc _).alloc _
 have k1:w2.heap[w.heap.size]?=some (.cells o.cells.toArray 33 (0,0)):=by rw[eC];exact((ae aX _).alloc _).keep (aC _ _) id
 have k2:w2.heap[w.heap.size+1]?=some (.cells bP 46 (0,0)):=by
  have h:=aC (w.alloc (.cells o.cells.toArray 33)) (.cells bP 46);rw[bK]at h;rw[eC];exact h
 have sN:=O (kV o hs w2 (hf.dx dF));have HH:=O (h.dx dF);have HF:=O (hf.dx dF);have lf:=O gu;have HI:=O hi;have fR:=O dF;have mD:=O k1;have qt:=O k2;have pS:=O (show base<=w.heap.size from ab);have wJ:=O oX;have oH:=O uo;have Qi:=O sL;have Qh:=O (sM.trans dF);have Qp:=O qk;rw[eC]at k1;rw[dN gu]at eC sN k1 ⊢;unfold bP at eC k1;have ow:=O eC;have uW:=O k1;clear eC gu dF k1 k2 h hf hi sL qk sM
 obtain⟨i,uZ,zD⟩:∃i:Nat,o.aF.part=(i:Int)/\i<4:=by
  obtain⟨h0,h1⟩:=ja hr;have Ru:0<=o.aF.part:=h0;have PB:o.aF.part<4:=h1;exact⟨o.aF.part.toNat,ab,ab⟩
 have RM:(i:Int)<4:=ab;have rL:¬(i:Int)<0:=ab;have SM:¬(4:Int)<=(i:Int):=ab;have Pp:(0:Int)<=(i:Int):=ab;have sr:=O zD;have zE:=O uZ;obtain⟨r,Bl⟩:∃r,r=oD (x.part i) (o.dX hs):=⟨_,rfl⟩;have HR:=O (show nj x (o.dX hs)=(x.set i r.1,r.2)by rw[pT hr uZ (by show o.what≠10;omega),Bl,amX (show(o.dX hs).what=7 from hw)]);rw[hr]at sN
 have HM:=O (show∀U,Fr aX w2 U->aE 47 #[.pointer (some ⟨B,i*3,none⟩),.agg o.cells.toArray] U (eG base U B (iz pv x.now) (i*3) (pv i) r)from fun U hU=>by
  have h:=MW base U B (i*3) (iz pv x.now) (pv i) (x.part i) o hs ((HH.o.dx hU).part i sr.o) ((HH.o.dx hU).partAt sr.o) wJ.o (HF.o.dx hU) (HI.o.ok.part i);rw[<-Bl]at h;exact h)
 rw[dN lf.o]at HM;have HW:=O hw;clear hr hw Bl zD uZ;go_enter func30,ntmps30;go_wp2_with (first|((with_reducible refine dt 8 ?_);refine aJ rfl 33 (.tmp 3) rfl w.heap.size rfl _ _ (0,0) _ uW.o underlying33 rfl af ?_)|fail)
 rw[<-ow.o];refine sN.o.mono ?_;rintro e u⟨rfl,hu⟩;obtain⟨a0,a1,a2,a3,a4,a5,a6,a7,a8,a9,jy,jz,a12,jw,jA,jb,jJ,jK,jL,jT,a20,a21⟩:=eo (hu.keep mD.o id) lf.o;rw[zE.o]at a1;clear a0 a2 a3 a4 a5 a6 a7 a8 a9 jy jz a12 jw jA jb jJ jK jL jT a20 a21;have pW:=O (show∀n,Fr aX w2 (u.drewN n)from fun n=>dE n hu);clear hu uW;go_wp2_with fail
 go_quiet (fail);clear a1;have mA:=pW.o nq;generalize u.drewN nq=u1 at mA ⊢;have sO:=O mA;clear mA pW;have DP:=O (sO.o.keep mD.o id);rw[dN lf.o]at DP;obtain⟨a0,a1,a2,a3,a4,a5,a6,a7,a8,a9,jy,jz,a12,jw,jA,jb,jJ,jK,jL,jT,a20,a21⟩:=eo (sO.o.keep mD.o id) lf.o;rw[zE.o]at a1;have wN:=HW.o;rw[wN]at a0;clear wN;clear a1 a2 a3 a4 a5 a6 a7 a8 a9 jy jz a12 jw jA jb jJ jK jL jT a20 a21
 go_wp2_with (first|((with_reducible refine dt 86 ?_);refine aJ rfl 33 (.tmp 3) rfl w.heap.size rfl _ _ (0,0) _ DP.o underlying33 rfl af ?_)|fail)
 have sP:=sO.o;refine(HM.o _ sP).mono ?_;rintro e u5⟨rfl,hp⟩;unfold kq.val;have Kd:=sP.keep qt.o id;have oN:=O (nH (HH.o.dx sP) sr.o hp Kd dS ab);have HP:=O (show dy base w B pv (x.set i r.1) u5 from cH fR.o (cH sP (kh (HH.o.dx sP) sr.o hp)));clear hp Kd sP HM
 go_wp2_with (first|((with_reducible refine cU 46 ?_);refine aI rfl 46 (.tmp 4) (.tmp 87) rfl (w.heap.size+1) #[.int .i64 r.2.what,.string r.2.head,.int .i64 r.2.cert] rfl rfl _ bP oN.o (ba _ rfl) rfl bS ?_)|fail)
 refine aR (bj bB _ _ (w.heap.size+1) 46 #[.int .i64 r.2.what,.string r.2.head,.int .i64 r.2.cert] (0,0) _ rfl (aY _ (w.heap.size+1) _ _ _ _ oN.o) underlying46 rfl (ba _ rfl)) rfl ?_;unfold jM;rw[HR.o];exact⟨rfl,ew HP.o pS.o oH.o (bT _) oN.o dS ag _⟩
theorem di.adb(h:di base w B pv x)(n:Int):di base (w.setCell ⟨B,12,none⟩ (.int .i64 n)) B pv {x with now:=n}/\Fr (one B) w (w.setCell ⟨B,12,none⟩ (.int .i64 n)):=by
 have kx:Fr (one B) w (w.setCell ⟨B,12,none⟩ (.int .i64 n)):=(ae (one B) w).setCell (p:=⟨B,12,none⟩) (fun _=>rfl) _;refine⟨⟨h.low,?_,fun i hi=>(h.part i hi).fr kx h.PZ (fun k hk e=>h.zd hi (by have e':k=B:=e;rw[<-e'];exact hk)),h.apart⟩,kx⟩;rw[cg h.eK 12 (.int .i64 n)];rfl
theorem Oo(base:Nat)(w:World)(B:Nat)(pv:Nat->dn)(x:ed)(o:jI)(hs:List gT)(h:di base w B pv x)(hf:gM w o hs)(hi:nk x)(a:World)(sL:kZ a)(qk:a.heap.size<=base)(sM:Fr aX a w)(hr:(o.dX hs).right=true)(hw:o.what=10) :
  aE 30 #[.pointer (some ⟨B,0,none⟩),.agg o.cells.toArray] w (jM base w B pv (nj x (o.dX hs))):=by
 have uo:B<w.heap.size:=h.lt;have oX:=h.low;obtain⟨ah,ch,gu⟩:=hf.h_;obtain⟨w2,eC⟩:∃w2,w2=(w.alloc (.cells o.cells.toArray 33)).alloc (.cells bP 46):=⟨_,rfl⟩;have dF:Fr aX w w2:=by rw[eC];exact((ae aX w).alloc _).alloc _
 have k1:w2.heap[w.heap.size]?=some (.cells o.cells.toArray 33 (0,0)):=by rw[eC];exact((ae aX _).alloc _).keep (aC _ _) id
 have k2:w2.heap[w.heap.size+1]?=some (.cells bP 46 (0,0)):=by
  have h:=aC (w.alloc (.cells o.cells.toArray 33)) (.cells bP 46);rw[bK]at h;rw[eC];exact h
 have sN:=O (kV o hs w2 (hf.dx dF));have HH:=O (h.dx dF);have HF:=O (hf.dx dF);have lf:=O gu;have HI:=O hi;have fR:=O dF;have mD:=O k1;have qt:=O k2;have pS:=O (show base<=w.heap.size from ab);have wJ:=O oX;have oH:=O uo;have Qi:=O sL;have Qh:=O (sM.trans dF);have Qp:=O qk;rw[eC]at k1;rw[dN gu]at eC sN k1 ⊢;unfold bP at eC k1;have ow:=O eC;have uW:=O k1;clear eC gu dF k1 k2 h hf hi sL qk sM
 obtain⟨i,uZ,zD⟩:∃i:Nat,o.aF.part=(i:Int)/\i<4:=by
  obtain⟨h0,h1⟩:=ja hr;have Ru:0<=o.aF.part:=h0;have PB:o.aF.part<4:=h1;exact⟨o.aF.part.toNat,ab,ab⟩
 have RM:(i:Int)<4:=ab;have rL:¬(i:Int)<0:=ab;have SM:¬(4:Int)<=(i:Int):=ab;have Pp:(0:Int)<=(i:Int):=ab;have sr:=O zD;have zE:=O uZ;have Hp:=O (show nj x (o.dX hs)=if o.n<0\/1099511627776-x.now<o.n then(x,rep 7)else({x with now:=x.now+o.n},rep 1)from C8 hr hw);rw[hr]at sN;have n0:=HI.o.ok.now.1;have n1:=HI.o.ok.now.2;have on:=HF.o.n;have HW:=O hw;clear hr hw zD uZ;go_enter func30,ntmps30
 go_wp2_with (first|((with_reducible refine dt 8 ?_);refine aJ rfl 33 (.tmp 3) rfl w.heap.size rfl _ _ (0,0) _ uW.o underlying33 rfl af ?_)|fail)
 rw[<-ow.o];refine sN.o.mono ?_;rintro e u⟨rfl,hu⟩;obtain⟨a0,a1,a2,a3,a4,a5,a6,a7,a8,a9,jy,jz,a12,jw,jA,jb,jJ,jK,jL,jT,a20,a21⟩:=eo (hu.keep mD.o id) lf.o;rw[zE.o]at a1;clear a0 a2 a3 a4 a5 a6 a7 a8 a9 jy jz a12 jw jA jb jJ jK jL jT a20 a21;have pW:=O (show∀n,Fr aX w2 (u.drewN n)from fun n=>dE n hu);clear hu uW;go_wp2_with fail
 go_quiet (fail);clear a1;have mA:=pW.o nq;generalize u.drewN nq=u1 at mA ⊢;have sO:=O mA;clear mA pW;have DP:=O (sO.o.keep mD.o id);rw[dN lf.o]at DP;obtain⟨a0,a1,a2,a3,a4,a5,a6,a7,a8,a9,jy,jz,a12,jw,jA,jb,jJ,jK,jL,jT,a20,a21⟩:=eo (sO.o.keep mD.o id) lf.o;rw[zE.o]at a1;have wN:=HW.o;rw[wN]at a0;clear wN;clear a1 a2 a3 a4 a5 a6 a7 a8 a9 jy jz a12 jw jA jb jJ jK jL jT a20
 have p1:u1.cell? ⟨B,12,none⟩=some (.int .i64 x.now):=by
  have j2:=(HH.o.dx sO.o).eK;simp only[World.cell?,j2];rfl
 have uk:=O (show∀n,Fr aX w2 (u1.drewN n)from fun n=>dE n sO.o);by_cases hn:o.n<0
 ·have hd:decide (o.n<0)=true:=bD hn;have HR:=O (Hp.o.trans (aB (Or.inl hn)));go_wp2_with fail
  go_quiet (fail);have nP:=uk.o nq;generalize u1.drewN nq=u2 at nP ⊢;have oN:=O (nP.keep qt.o id);have XU:=O (show dy base w B pv x u2 from cH fR.o (fx HH.o nP));go_wp2_with (first|((with_reducible refine cU 46 ?_);refine aI rfl 46 (.tmp 4) (.tmp 103) rfl (w.heap.size+1) #[.int .i64 7,.string ⟨#[]⟩,.int .i64 0] rfl rfl _ bP oN.o (ba _ rfl) rfl bS ?_)|fail)
  refine aR (bj bB _ _ (w.heap.size+1) 46 #[.int .i64 7,.string ⟨#[]⟩,.int .i64 0] (0,0) _ rfl (aY _ (w.heap.size+1) _ _ _ _ oN.o) underlying46 rfl (ba _ rfl)) rfl ?_;unfold jM;rw[HR.o];exact⟨rfl,ew XU.o pS.o oH.o (bT _) oN.o dS ag _⟩
 ·have hd:decide (o.n<0)=false:=bf hn;by_cases hm:1099511627776-x.now<o.n
  ·have tN:decide (1099511627776-x.now<o.n)=true:=bD hm;have HR:=O (Hp.o.trans (aB (Or.inr hm)));go_wp2_with fail
   go_quiet (fail);have nP:=uk.o nq;generalize u1.drewN nq=u2 at nP ⊢;have oN:=O (nP.keep qt.o id);have XU:=O (show dy base w B pv x u2 from cH fR.o (fx HH.o nP));go_wp2_with (first|((with_reducible refine cU 46 ?_);refine aI rfl 46 (.tmp 4) (.tmp 103) rfl (w.heap.size+1) #[.int .i64 7,.string ⟨#[]⟩,.int .i64 0] rfl rfl _ bP oN.o (ba _ rfl) rfl bS ?_)|fail)
   refine aR (bj bB _ _ (w.heap.size+1) 46 #[.int .i64 7,.string ⟨#[]⟩,.int .i64 0] (0,0) _ rfl (aY _ (w.heap.size+1) _ _ _ _ oN.o) underlying46 rfl (ba _ rfl)) rfl ?_;unfold jM;rw[HR.o];exact⟨rfl,ew XU.o pS.o oH.o (bT _) oN.o dS ag _⟩
  ·have tN:decide (1099511627776-x.now<o.n)=false:=bf hm;have HR:=O (Hp.o.trans (ay ab));go_wp2_with fail
   go_quiet (fail);have nP:=uk.o nq;generalize u1.drewN nq=u2 at nP ⊢;have oN:=O (nP.keep qt.o id);have XU:=O (show dy base w B pv x u2 from cH fR.o (fx HH.o nP));go_wp2_with fail
   have q1:u2.cell? ⟨B,12,none⟩=some (.int .i64 x.now):=by
    have j2:=(HH.o.dx nP).eK;simp only[World.cell?,j2];rfl
   have q2:u2.frozen? ⟨B,12,none⟩=false:=by
    have j2:=(HH.o.dx nP).eK;simp[World.frozen?,j2]
   obtain⟨a0,a1,a2,a3,a4,a5,a6,a7,a8,a9,jy,jz,a12,jw,jA,jb,jJ,jK,jL,jT,a20,a21⟩:=eo (nP.keep mD.o id) lf.o;clear a0 a1 a2 a3 a4 a5 a6 a7 a8 a9 jy jz a12 jw jA jb jJ jK jL jT a20;have g1: -9223372036854775808<=x.now+o.n:=ab;have g2:x.now+o.n<=9223372036854775807:=ab
   go_region
   obtain⟨A1,KQ⟩:=(HH.o.dx nP).adb (x.now+o.n);have hWP:dy base u2 B pv {x with now:=x.now+o.n} (u2.setCell ⟨B,12,none⟩ (.int .i64 (x.now+o.n))):=⟨pv,A1,KQ.mono (fun k _ e=>Or.inl e),fun k hk=>Or.inl hk⟩;have HP:=O (show dy base w B pv {x with now:=x.now+o.n} _ from cH fR.o (cH nP (hWP.then (aA (ae aX _)))))
   have NG:=O (show((u2.setCell ⟨B,12,none⟩ (.int .i64 (x.now+o.n))).drew).heap[w.heap.size+1]?=_ from KQ.keep oN.o (fun e=>by have e':w.heap.size+1=B:=e;have:=oH.o;omega));clear A1 KQ hWP q1 q2 a21;go_wp2_with (first|((with_reducible refine cU 46 ?_);refine aI rfl 46 (.tmp 4) (.tmp 113) rfl (w.heap.size+1) #[.int .i64 1,.string ⟨#[]⟩,.int .i64 0] rfl rfl _ bP NG.o (ba _ rfl) rfl bS ?_)|fail)
   refine aR (bj bB _ _ (w.heap.size+1) 46 #[.int .i64 1,.string ⟨#[]⟩,.int .i64 0] (0,0) _ rfl (aY _ (w.heap.size+1) _ _ _ _ NG.o) underlying46 rfl (ba _ rfl)) rfl ?_;unfold jM;rw[HR.o];exact⟨rfl,ew HP.o pS.o oH.o (bT _) NG.o dS ag _⟩
theorem YF(base:Nat)(w:World)(B:Nat)(pv:Nat->dn)(x:ed)(o:jI)(hs:List gT)(h:di base w B pv x)(hf:gM w o hs)(hi:nk x)(a:World)(sL:kZ a)(qk:a.heap.size<=base)(sM:Fr aX a w)(hr:(o.dX hs).right=true)(hw:o.what=8\/o.what=9) :
  aE 30 #[.pointer (some ⟨B,0,none⟩),.agg o.cells.toArray] w (jM base w B pv (nj x (o.dX hs))):=by
 have uo:B<w.heap.size:=h.lt;have oX:=h.low;obtain⟨ah,ch,gu⟩:=hf.h_;obtain⟨w2,eC⟩:∃w2,w2=(w.alloc (.cells o.cells.toArray 33)).alloc (.cells bP 46):=⟨_,rfl⟩;have dF:Fr aX w w2:=by rw[eC];exact((ae aX w).alloc _).alloc _
 have k1:w2.heap[w.heap.size]?=some (.cells o.cells.toArray 33 (0,0)):=by rw[eC];exact((ae aX _).alloc _).keep (aC _ _) id
 have k2:w2.heap[w.heap.size+1]?=some (.cells bP 46 (0,0)):=by
  have h:=aC (w.alloc (.cells o.cells.toArray 33)) (.cells bP 46);rw[bK]at h;rw[eC];exact h
 have sN:=O (kV o hs w2 (hf.dx dF));have HH:=O (h.dx dF);have HF:=O (hf.dx dF);have lf:=O gu;have HI:=O hi;have fR:=O dF;have mD:=O k1;have qt:=O k2;have pS:=O (show base<=w.heap.size from ab);have wJ:=O oX;have oH:=O uo;have Qi:=O sL;have Qh:=O (sM.trans dF);have Qp:=O qk;rw[eC]at k1;rw[dN gu]at eC sN k1 ⊢;unfold bP at eC k1;have ow:=O eC;have uW:=O k1;clear eC gu dF k1 k2 h hf hi sL qk sM
 obtain⟨i,uZ,zD⟩:∃i:Nat,o.aF.part=(i:Int)/\i<4:=by
  obtain⟨h0,h1⟩:=ja hr;have Ru:0<=o.aF.part:=h0;have PB:o.aF.part<4:=h1;exact⟨o.aF.part.toNat,ab,ab⟩
 have RM:(i:Int)<4:=ab;have rL:¬(i:Int)<0:=ab;have SM:¬(4:Int)<=(i:Int):=ab;have Pp:(0:Int)<=(i:Int):=ab;have sr:=O zD;have zE:=O uZ;obtain⟨r,Bl⟩:∃r,r=rB (x.part i) (o.dX hs):=⟨_,rfl⟩;have HR:=O (show nj x (o.dX hs)=(x.set i r.1,r.2)by rw[pT hr uZ (by show o.what≠10;omega),Bl,Ux (show(o.dX hs).what=8\/(o.dX hs).what=9 from hw)]);rw[hr]at sN
 have HM:=O (show∀U,Fr aX w2 U->aE 48 #[.pointer (some ⟨B,i*3,none⟩),.agg o.cells.toArray] U (eG base U B (iz pv x.now) (i*3) (pv i) r)from fun U hU=>by
  have h:=US base U B (i*3) (iz pv x.now) (pv i) (x.part i) o hs ((HH.o.dx hU).part i sr.o) ((HH.o.dx hU).partAt sr.o) wJ.o (HF.o.dx hU) (HI.o.ok.part i);rw[<-Bl]at h;exact h)
 rw[dN lf.o]at HM;have HW:=O hw;clear hr hw Bl zD uZ;go_enter func30,ntmps30;go_wp2_with (first|((with_reducible refine dt 8 ?_);refine aJ rfl 33 (.tmp 3) rfl w.heap.size rfl _ _ (0,0) _ uW.o underlying33 rfl af ?_)|fail)
 rw[<-ow.o];refine sN.o.mono ?_;rintro e u⟨rfl,hu⟩;obtain⟨a0,a1,a2,a3,a4,a5,a6,a7,a8,a9,jy,jz,a12,jw,jA,jb,jJ,jK,jL,jT,a20,a21⟩:=eo (hu.keep mD.o id) lf.o;rw[zE.o]at a1;clear a0 a2 a3 a4 a5 a6 a7 a8 a9 jy jz a12 jw jA jb jJ jK jL jT a20 a21;have pW:=O (show∀n,Fr aX w2 (u.drewN n)from fun n=>dE n hu);clear hu uW;go_wp2_with fail
 go_quiet (fail);clear a1;have mA:=pW.o nq;generalize u.drewN nq=u1 at mA ⊢;have sO:=O mA;clear mA pW;have DP:=O (sO.o.keep mD.o id);rw[dN lf.o]at DP;obtain⟨a0,a1,a2,a3,a4,a5,a6,a7,a8,a9,jy,jz,a12,jw,jA,jb,jJ,jK,jL,jT,a20,a21⟩:=eo (sO.o.keep mD.o id) lf.o;rw[zE.o]at a1;have wN:=HW.o
 have hne:(o.what==1)=false/\(o.what==2)=false/\(o.what==3)=false/\(o.what==4)=false/\(o.what==5)=false/\(o.what==6)=false/\(o.what==7)=false/\(o.what==10)=false:=by
  refine⟨?_,?_,?_,?_,?_,?_,?_,?_⟩<;>(rw[aL];omega)
 obtain⟨n1,n2,n3,n4,n5,n6,n7,n10⟩:=hne;have m1:¬o.what=1:=ab;have m2:¬o.what=2:=ab;have m3:¬o.what=3:=ab;have m4:¬o.what=4:=ab;have m5:¬o.what=5:=ab;have m6:¬o.what=6:=ab;have m7:¬o.what=7:=ab;have m10:¬o.what=10:=ab;clear wN;clear a1 a2 a3 a4 a5 a6 a7 a8 a9 jy jz a12 jw jA jb jJ jK jL jT a20 a21
 go_wp2_with (first|((with_reducible refine dt 115 ?_);refine aJ rfl 33 (.tmp 3) rfl w.heap.size rfl _ _ (0,0) _ DP.o underlying33 rfl af ?_)|fail)
 have sP:=sO.o;refine(HM.o _ sP).mono ?_;rintro e u5⟨rfl,hp⟩;unfold kq.val;have Kd:=sP.keep qt.o id;have oN:=O (nH (HH.o.dx sP) sr.o hp Kd dS ab);have HP:=O (show dy base w B pv (x.set i r.1) u5 from cH fR.o (cH sP (kh (HH.o.dx sP) sr.o hp)));clear hp Kd sP HM
 go_wp2_with (first|((with_reducible refine cU 46 ?_);refine aI rfl 46 (.tmp 4) (.tmp 116) rfl (w.heap.size+1) #[.int .i64 r.2.what,.string r.2.head,.int .i64 r.2.cert] rfl rfl _ bP oN.o (ba _ rfl) rfl bS ?_)|fail)
 refine aR (bj bB _ _ (w.heap.size+1) 46 #[.int .i64 r.2.what,.string r.2.head,.int .i64 r.2.cert] (0,0) _ rfl (aY _ (w.heap.size+1) _ _ _ _ oN.o) underlying46 rfl (ba _ rfl)) rfl ?_;unfold jM;rw[HR.o];exact⟨rfl,ew HP.o pS.o oH.o (bT _) oN.o dS ag _⟩
section
variable {U : World} {T B : Nat} {g : Nat → ql} {sv : Value} {t : iI}
theorem Vz(h:fT U T B g sv t)(n:Int) :
  aE 11 #[.pointer (some ⟨T,0,none⟩),.int .i64 n] U fun e w'=>e=.returned (.int .i64 (Ol t n:Nat))/\w'=U:=by
 unfold Ol;cases hn:xV n
 ·have hh:¬(0<=n/\n<6):=by
   intro hh;unfold xV at hn;simp[hh.1,hh.2]at hn
  clear hn h;by_cases h0:n<0
  ·have h1:¬(0:Int)<=n:=ab;clear hh;go_enter func11,ntmps11;go_wp2;go_ret;exact⟨rfl,rfl⟩
  ·have h1:(0:Int)<=n:=ab;have h4:(6:Int)<=n:=ab;have h5:¬n<6:=ab;clear hh;go_enter func11,ntmps11;go_wp2;go_ret;exact⟨rfl,rfl⟩
 ·obtain⟨i,rfl,hi⟩:=GM hn;have c:U.cell? ⟨T,17+i*45,none⟩=some (.int .i64 (t.tab i).does):=h.tab i hi 0 _ rfl;have h1:(i:Int)<6:=ab;have h0:¬(i:Int)<0:=ab;have h2:¬(6:Int)<=(i:Int):=ab;have h3:(0:Int)<=(i:Int):=ab;clear hn h;go_enter func11,ntmps11;go_wp2;go_ret;exact⟨rfl,rfl⟩
end
structure ka (base:Nat) (U:World) (v:jI×List gT) (o:jx):Prop where
 fit:gM U v.1 v.2
 is:v.1.dX v.2=o
 own:OwnRows base 142 2 U v.1.aF.ef (v.2.map gT.cells)
def Kc(x:UB×(jI×List gT)):a_:=.int .i64 x.1.tab :: (x.2.1.cells++(pU x.1.fP++[.int .i64 x.1.mr,.int .i64 x.1.fin]))
def qx(base:Nat)(U:World)(sv:Value)(l:List UB):Prop:=∃es:List (UB×(jI×List gT)),es.map (·.1)=l/\OwnRows base 88 28 U sv (es.map Kc)/\∀x∈es,ka base U x.2 x.1.op
def oV(xw:Option (Nat×ed))(B:Nat)(sb:Nat->Nat)(t:iI):Nat->Option (Nat×ed):=fun i=>if i=6 then some (B,t.w)else if i=7 then xw else if i<6/\((t.tab i).does=2\/(t.tab i).does=3)then some (sb i,(t.tab i).seen)else none
theorem MK(hw:t'.w=t.w)(h:∀n,n<6->((t'.tab n).does=2\/(t'.tab n).does=3)->((t.tab n).does=2\/(t.tab n).does=3)/\(t'.tab n).seen=(t.tab n).seen):∀j p,oV xw B sb t' j=some p->oV xw B sb t j=some p:=by
 intro j p hp;unfold oV at hp ⊢;by_cases e6:j=6
 ·rw[aB e6]at hp ⊢;rw[<-hw];exact hp
 ·rw[ay e6]at hp ⊢;by_cases e7:j=7
  ·rw[aB e7]at hp ⊢;exact hp
  ·rw[ay e7]at hp ⊢;split at hp
   ·rename_i hc;obtain⟨q1,q2⟩:=h j hc.1 hc.2;rw[aB ⟨hc.1,q1⟩, <-q2];exact hp
   ·cases hp
theorem UF(hw:t'.w=t.w)(i:Nat)(ht:∀n,n≠i->t'.tab n=t.tab n)(h2:(t'.tab i).does≠2)(h3:(t'.tab i).does≠3):∀j p,oV xw B sb t' j=some p->oV xw B sb t j=some p :=
 MK hw fun n _ hd=>by
  by_cases e:n=i
  ·subst e;exact absurd hd (fun h=>h.elim h2 h3)
  ·rw[ht n e]at hd ⊢;exact⟨hd,rfl⟩
structure dz (xw:Option (Nat×ed)) (a U:World) (T:Nat) (t:iI):Prop where
 ex:∃B g sv sb,fT U T B g sv t/\xh a.heap.size U (oV xw B sb t)/\qx a.heap.size U sv t.ic/\∀n,n<6->((t.tab n).does≠0->ka a.heap.size U ((g n).o,(g n).hs) (t.tab n).op)/\((t.tab n).does=2\/(t.tab n).does=3->(g n).sp=.pointer (some ⟨sb n,0,none⟩))
 low:a.heap.size<=T
 fr:Fr aX a U
structure iC (k:Int) (t:iI):Prop where
 steps:0<=t.steps/\t.steps<=k
 num:∀p i,0<=t.num p i/\t.num p i<=k
 fails:∀n,(t.tab n).fails<=3
 does:∀n,(t.tab n).does<=3
 inv:nk t.w
 seen:∀n,(t.tab n).does=2\/(t.tab n).does=3->nk (t.tab n).seen
 ops:∀n,(t.tab n).does≠0->(t.tab n).op.user.size<=5000/\(t.tab n).op.pass.size<=5000/\(t.tab n).op.path.size<=5000
section
variable {xw : Option (Nat × ed)} {base : Nat} {a U U' : World} {T : Nat} {t : iI}
def gH(U U':World):Prop:=∃S:dB,Fr S U U'/\∀(n:Nat) (c:bW) (e:TypeId),U.heap[n]?=some (.cells c e (0,0))->(fj e/\e≠97)/\e≠88/\e≠78->¬S n
theorem gH.Yv(h:Fr aX U U'):gH U U':=⟨aX,h,fun _ _ _ _ _ h=>h⟩
theorem gH.refl(U:World):gH U U:=gH.Yv (ae _ _)
theorem gH.ML(h:Kept U U'):gH U U':=by
 obtain⟨S,hf,hs⟩:=h;exact⟨S,hf,fun n c e hn he=>hs n c e hn he.1.1 he.1.2⟩
theorem gH.block(h:gH U U')(hn:U.heap[n]?=some (.cells c e (0,0)))(he:(fj e/\e≠97)/\e≠88/\e≠78):U'.heap[n]?=some (.cells c e (0,0)):=by
 obtain⟨S,hf,hs⟩:=h;exact hf.keep hn (hs n c e hn he)
theorem gH.step{Z:dB}(h:gH U V)(g:Fr Z V U')(hz:∀(n:Nat) (c:bW) (e:TypeId),n<U.heap.size->V.heap[n]?=some (.cells c e (0,0))->(fj e/\e≠97)/\e≠88/\e≠78->¬Z n):gH U U':=by
 obtain⟨S,hf,hs⟩:=h;refine⟨fun n=>S n\/Z n,(hf.mono fun _ _ h=>Or.inl h).trans (g.mono fun _ _ h=>Or.inr h),?_⟩;rintro n c e hn he(q|q)
 ·exact hs n c e hn he q
 ·exact hz n c e (bg hn) (hf.keep hn (hs n c e hn he)) he q
theorem gH.trans(h:gH U V)(g:gH V U'):gH U U':=by
 obtain⟨Z,hg,hz⟩:=g;exact h.step hg fun n c e _ hn he=>hz n c e hn he
theorem gH.tabs(h:gH U V)(hT:V.heap[T]?=some (.cells c 78 (0,0)))(g:Fr (one T) V U'):gH U U':=h.step g fun n c' e _ hn he q=>by
 cases(show n=T from q);rw[hT]at hn;cases hn;exact he.2.2 rfl
theorem gH.new(h:gH U V)(g:Fr (one m) V U')(hm:U.heap.size<=m):gH U U':=h.step g fun n c' e hl _ _ q=>by
 have:n=m:=q;omega
theorem rF:(fj 46/\46≠97)/\46≠88/\46≠78:=by unfold fj;decide
theorem Dp:fj 142/\142≠97:=by unfold fj;decide
theorem uw:fj 88/\88≠97:=by unfold fj;decide
theorem qV:fj 78/\78≠97:=by unfold fj;decide
theorem ka.rows(h:ka base U v o)(g:OwnRows base 142 2 U' v.1.aF.ef (v.2.map gT.cells)):ka base U' v o:=⟨{h.fit with ef:=g.at},h.is,g⟩
theorem ka.kept(h:ka base U v o)(hk:Kept U U'):ka base U' v o:=h.rows (hk.rows h.own Dp.1 Dp.2)
theorem ka.one(h:ka base U v o)(hb:U.heap[n]?=some (.cells c e (0,0)))(he:e≠142)(hf:Fr (one n) U U'):ka base U' v o :=
 h.rows (h.own.fr hf fun g hg q=>h.own.not hb he (by rw[hg];exact ar some q))
theorem qx.kept(h:qx base U sv l)(hk:Kept U U'):qx base U' sv l:=by
 obtain⟨es,h1,h2,h3⟩:=h;exact⟨es,h1,hk.rows h2 uw.1 uw.2,fun x hx=>(h3 x hx).kept hk⟩
theorem qx.one(h:qx base U sv l)(hb:U.heap[n]?=some (.cells c e (0,0)))(he:e≠142)(he':e≠88)(hf:Fr (one n) U U'):qx base U' sv l:=by
 obtain⟨es,h1,h2,h3⟩:=h;exact⟨es,h1,h2.fr hf fun g hg q=>h2.not hb he' (by rw[hg];exact ar some q),fun x hx=>(h3 x hx).one hb he hf⟩
theorem dz.dx(h:dz xw a U T t)(hf:Fr aX U U'):dz xw a U' T t:=by
 obtain⟨B,g,sv,sb,h1,h2,h3,h4⟩:=h.ex;exact⟨⟨B,g,sv,sb,h1.fr hf id,h2.dx hf,h3.kept (kK hf),fun n hn=>⟨fun hd=>((h4 n hn).1 hd).kept (kK hf),(h4 n hn).2⟩⟩,h.low,h.fr.trans hf⟩
theorem dz.put{B:Nat}{g:Nat->ql}{sv:Value}{sb:Nat->Nat}{t':iI}{g':Nat->ql}(h1:fT U T B g sv t)(h2:xh a.heap.size U (oV xw B sb t))(h3:qx a.heap.size U sv t.ic)
  (h4:∀n,n<6->((t.tab n).does≠0->ka a.heap.size U ((g n).o,(g n).hs) (t.tab n).op)/\((t.tab n).does=2\/(t.tab n).does=3->(g n).sp=.pointer (some ⟨sb n,0,none⟩)))(kO:a.heap.size<=T)(cR:Fr aX a U)
  (hb:fT U' T B g' sv t'/\Fr (one T) U U')(hs:t'.ic=t.ic)(hw:∀i p,oV xw B sb t' i=some p->oV xw B sb t i=some p)
  (h4':∀n,n<6->((t'.tab n).does≠0->((g' n).o=(g n).o/\(g' n).hs=(g n).hs/\(t'.tab n).op=(t.tab n).op/\(t.tab n).does≠0)\/ka a.heap.size U ((g' n).o,(g' n).hs) (t'.tab n).op)/\((t'.tab n).does=2\/(t'.tab n).does=3->(g' n).sp=.pointer (some ⟨sb n,0,none⟩))):dz xw a U' T t':=by
 obtain⟨hb,hf⟩:=hb;obtain⟨c,hc,_⟩:=h1.eK;refine⟨⟨B,g',sv,sb,hb,(h2.one kO hc qV.1 qV.2 ag hf).sub hw,by rw[hs];exact h3.one hc ag ag hf,fun n hn=>⟨fun hd=>?_,(h4' n hn).2⟩⟩,kO,cR.step hf fun k hk e=>?_⟩
 ·rcases(h4' n hn).1 hd with ⟨e1,e2,e3,e4⟩|q
  ·rw[e1,e2,e3];exact((h4 n hn).1 e4).one hc ag hf
  ·exact q.one hc ag hf
 ·have:k=T:=e;omega
theorem dz.aside(h:dz xw a U T t)(hn:a.heap.size<=n)(hb:U.heap[n]?=some (.cells c e (0,0)))(he:fj e/\e≠97)(h1:e≠142)(h2:e≠88)(h3:e≠78)(h4:e≠9)(hf:Fr (one n) U U'):dz xw a U' T t:=by
 obtain⟨B,g,sv,sb,g1,g2,g3,g4⟩:=h.ex;obtain⟨d,hd,_⟩:=g1.eK;have hT:¬(one n) T:=fun e'=>by
  cases(show T=n from e');rw[hd]at hb;cases hb;exact h3 rfl
 refine⟨⟨B,g,sv,sb,g1.fr hf hT,g2.one hn hb he.1 he.2 h4 hf,g3.one hb h1 h2 hf,fun m hm=>⟨fun hd=>((g4 m hm).1 hd).one hb h1 hf,(g4 m hm).2⟩⟩,h.low,h.fr.step hf fun k hk e'=>?_⟩;have:k=n:=e';omega
end
abbrev k_ := @dz.put
abbrev eH := @gH.Yv
theorem adg(base:Nat)(w:World)(B:Nat)(pv:Nat->dn)(x:ed)(o:jI)(hs:List gT)(h:di base w B pv x)(hf:gM w o hs)(hi:nk x)(a:World)(sL:kZ a)(qk:a.heap.size<=base)(sM:Fr aX a w) :
  aE 30 #[.pointer (some ⟨B,0,none⟩),.agg o.cells.toArray] w (jM base w B pv (nj x (o.dX hs))):=by
 cases hr:(o.dX hs).right
 ·exact acU base w B pv x o hs h hf hi a sL qk sM hr
 ·obtain⟨h1,h2⟩:=MJ hr;have PB:1<=o.what:=h1;have h2':o.what<=10:=h2;have hq:o.what=1\/o.what=2\/o.what=3\/o.what=4\/o.what=5\/o.what=6\/o.what=7\/(o.what=8\/o.what=9)\/o.what=10:=ab;rcases hq with hq|hq|hq|hq|hq|hq|hq|hq|hq
  ·exact Qq base w B pv x o hs h hf hi a sL qk sM hr hq
  ·exact MR base w B pv x o hs h hf hi a sL qk sM hr hq
  ·exact Kr base w B pv x o hs h hf hi a sL qk sM hr hq
  ·exact UN base w B pv x o hs h hf hi a sL qk sM hr hq
  ·exact MT base w B pv x o hs h hf hi a sL qk sM hr hq
  ·exact YD base w B pv x o hs h hf hi a sL qk sM hr hq
  ·exact QB base w B pv x o hs h hf hi a sL qk sM hr hq
  ·exact YF base w B pv x o hs h hf hi a sL qk sM hr hq
  ·exact Oo base w B pv x o hs h hf hi a sL qk sM hr hq
def FA(b:Bool)(w:World)(p:Addr)(v:Value):World:=if b then w.setCell p v else w
theorem zp(h:Fr (one B) a w)(b:Bool)(k:Nat)(v:Value):Fr (one B) a (FA b w ⟨B,k,none⟩ v):=by
 cases b
 ·exact h
 ·exact h.setCell (p:=⟨B,k,none⟩) (fun _=>rfl) v
theorem zq{cs:a_}{t:TypeId}{f:Nat×Nat}(h:w.heap[B]?=some (.cells cs.toArray t f))(b:Bool)(k:Nat){old:Value}(hk:cs[k]?=some old)(v:Value) :
  (FA b w ⟨B,k,none⟩ v).heap[B]?=some (.cells (cs.set k (if b then v else old)).toArray t f):=by
 cases b
 ·have e:cs.set k old=cs:=by
   apply iW;intro i;by_cases hi:i=k
   ·subst hi;rw[List.getElem?_set_self (List.getElem?_eq_some_iff.1 hk).1,hk]
   ·rw[List.getElem?_set_ne (kE hi)]
  show w.heap[B]?=some (.cells (cs.set k old).toArray t f);rw[e,h]
 ·show(w.setCell ⟨B,k,none⟩ v).heap[B]?=some (.cells (cs.set k v).toArray t f);rw[cg h k v,List.setIfInBounds_toArray]
def FB(b0 b1 b2:Bool)(v q:dn):dn :=
 ⟨if b0 then q.b else v.b,if b0 then q.gv else v.gv,if b0 then q.wv else v.wv,if b1 then q.k else v.k,if b1 then q.kv else v.kv,if b2 then q.cv else v.cv⟩
theorem M3{b0 b1 b2:Bool}{v:dn}{k:Nat}(h:(FB b0 b1 b2 v q).jS k):v.jS k\/q.jS k:=by
 rcases h with h|h|h
 ·cases b0
  ·exact Or.inl (Or.inl h)
  ·exact Or.inr (Or.inl h)
 ·cases b1
  ·exact Or.inl (Or.inr (Or.inl h))
  ·exact Or.inr (Or.inr (Or.inl h))
 ·cases b2
  ·exact Or.inl (Or.inr (Or.inr h))
  ·exact Or.inr (Or.inr (Or.inr h))
theorem eQ.take{v:dn}{P F:eD}(h:eQ base w v P)(g:eQ base w q F)(b0 b1 b2:Bool) :
  eQ base w (FB b0 b1 b2 v q) ⟨if b0 then F.bZ else P.bZ,if b0 then F.waits else P.waits,if b1 then F.book else P.book,if b2 then F.eJ else P.eJ⟩ :=
 ⟨by cases b0;exact h.oT;exact g.oT,by cases b1;exact h.book;exact g.book,by cases b2;exact h.eJ;exact g.eJ⟩
def Ot(b0 b1 b2 b3:Bool)(W:World)(B i:Nat)(q:dn)(n:Int):World :=
 FA b3 (FA b2 (FA b1 (FA b0 W ⟨B,i*3,none⟩ (.pointer (some ⟨q.b,0,none⟩))) ⟨B,i*3+1,none⟩ (.pointer (some ⟨q.k,0,none⟩))) ⟨B,i*3+2,none⟩ q.cv) ⟨B,12,none⟩ (.int .i64 n)
theorem QJ{base:Nat}{w W:World}{B N:Nat}{pv qc:Nat->dn}{x f:ed}(h:di base w B pv x)(hW:Fr aX w W)(hc:di base W N qc f)(hn:∀k,mo N qc k->w.heap.size<=k){part:Int}{i:Nat}(hi:i<4)(hp:part=(i:Int)){c:Nat}{b0 b1 b2 b3:Bool}
  (h0:c.testBit 0=b0)(h1:c.testBit 1=b1)(h2:c.testBit 2=b2)(h3:c.testBit 3=b3):dy base w B pv (lu x f part c) (Ot b0 b1 b2 b3 W B i (qc i) f.now):=by
 have hB:=h.dx hW;have cR:Fr (one B) W (Ot b0 b1 b2 b3 W B i (qc i) f.now):=zp (zp (zp (zp (ae _ _) _ _ _) _ _ _) _ _ _) _ _ _;have ZN:part.toNat=i:=by rw[hp];simp
 have hx:lu x f part c={part:=fun j=>if j=i then⟨if b0 then(f.part j).bZ else(x.part j).bZ,if b0 then(f.part j).waits else(x.part j).waits,if b1 then(f.part j).book else(x.part j).book,if b2 then(f.part j).eJ else(x.part j).eJ⟩else x.part j,now:=if b3 then f.now else x.now}:=by
  rw[Qo ab ab,ZN];unfold uu;rw[h0,h1,h2,h3]
 have tK:∀j k,j<4->(pv j).jS k->k<w.heap.size:=fun j k hj hk=>h.je (Or.inr ⟨j,hj,hk⟩);have hge:∀k,(qc i).jS k->w.heap.size<=k:=fun k hk=>hn k (Or.inr ⟨i,hi,hk⟩);have kL:∀j k,j<4->(xS pv i (FB b0 b1 b2 (pv i) (qc i)) j).jS k->(pv j).jS k\/(j=i/\w.heap.size<=k):=by
  intro j k hj hk;by_cases Hf:j=i
  ·subst Hf;rw[sk]at hk;rcases M3 hk with e|e
   ·exact Or.inl e
   ·exact Or.inr ⟨rfl,hge k e⟩
  ·rw[ml pv _ Hf]at hk;exact Or.inl hk
 rw[hx];refine⟨xS pv i (FB b0 b1 b2 (pv i) (qc i)),⟨h.low,?_,fun j hj=>?_,fun j l hj hl hjl k hkj Zr=>?_⟩,?_,?_⟩
 ·obtain⟨c0,c1,c2⟩:=wC pv x.now hi;have e0:=zq hB.eK b0 (i*3) c0 (.pointer (some ⟨(qc i).b,0,none⟩));have e1:=zq e0 b1 (i*3+1) (old:=.pointer (some ⟨(pv i).k,0,none⟩)) (by rw[List.getElem?_set_ne ab];exact c1) (.pointer (some ⟨(qc i).k,0,none⟩));have e2:=zq e1 b2 (i*3+2) (old:=(pv i).cv) (by rw[List.getElem?_set_ne ab,List.getElem?_set_ne ab];exact c2) (qc i).cv
  have e3:=zq e2 b3 12 (old:=.int .i64 x.now) (by rw[List.getElem?_set_ne ab,List.getElem?_set_ne ab,List.getElem?_set_ne ab];exact Mn pv x.now) (.int .i64 f.now);unfold Ot;rw[e3]
  have s1:(((iz pv x.now).set (i*3) (if b0=true then .pointer (some ⟨(qc i).b,0,none⟩)else .pointer (some ⟨(pv i).b,0,none⟩))).set (i*3+1) (if b1=true then .pointer (some ⟨(qc i).k,0,none⟩)else .pointer (some ⟨(pv i).k,0,none⟩))).set (i*3+2) (if b2=true then(qc i).cv else(pv i).cv)=iz (xS pv i (FB b0 b1 b2 (pv i) (qc i))) x.now:=by
   rw[<-xT pv x.now hi];unfold oU FB;cases b0<;>cases b1<;>rfl
  rw[s1];cases b3
  ·rw[ay ag,xf];rfl
  ·rw[aB rfl,xf];rfl
 ·by_cases Hf:j=i
  ·subst Hf;rw[sk];show eQ base _ _ (if j=j then _ else _);rw[aB rfl];have hB':¬(qc j).jS B:=fun e=>by
    have a1:=hge B e;have a2:=h.lt;omega
   exact((hB.part j hj).fr cR hB.PZ (fun k hk e=>hB.zd hj (by have e':k=B:=e;rw[<-e'];exact hk))).take ((hc.part j hj).fr cR hB.PZ (fun k hk e=>hB' (by have e':k=B:=e;rw[<-e'];exact hk))) b0 b1 b2
  ·rw[ml pv _ Hf];show eQ base _ _ (if j=i then _ else _);rw[ay Hf];exact(hB.part j hj).fr cR hB.PZ (fun k hk e=>hB.zd hj (by have e':k=B:=e;rw[<-e'];exact hk))
 ·rcases kL j k hj hkj with e|⟨e,he⟩
  ·rcases kL l k hl Zr with g|⟨g,hg⟩
   ·exact h.apart j l hj hl hjl k e g
   ·have:=tK j k hj e;omega
  ·rcases kL l k hl Zr with g|⟨g,hg⟩
   ·have:=tK l k hl g;omega
   ·exact hjl (e.trans g.symm)
 ·exact(hW.mono (T:=mo B pv) (fun _ _ h=>absurd h id)).step cR (fun k _ e=>Or.inl e)
 ·rintro k(rfl|⟨j,hj,hk⟩)
  ·exact Or.inl (Or.inl rfl)
  ·rcases kL j k hj hk with e|⟨_,e⟩
   ·exact Or.inl (Or.inr ⟨j,hj,e⟩)
   ·exact Or.inr e
theorem YG{o:jI}(h:di w.heap.size U B pv x)(hf:Fr aX w U)(hi:nk x)(ht:kZ w)(ho:gM U o hs) :
  aE 30 #[.pointer (some ⟨B,0,none⟩),.agg o.cells.toArray] U (fun e w'=>e=.returned (.agg #[.int .i64 (nj x (o.dX hs)).2.what,.string (nj x (o.dX hs)).2.head,.int .i64 (nj x (o.dX hs)).2.cert])/\dy w.heap.size U B pv (nj x (o.dX hs)).1 w') :=
 adg w.heap.size U B pv x o hs h ho hi w ht (az _) hf
theorem iC.new:iC 0 uG:=⟨⟨gq _,gq _⟩,fun _ _=>⟨gq _,gq _⟩,fun _=>aW _,fun _=>aW _,nk.new,fun _ h=>by simp[uG,ib]at h,fun _ h=>by simp[uG,ib]at h⟩
theorem iC.mono{j:Int}(h:iC k t)(hk:k<=j):iC j t:={h with steps:=⟨h.steps.1,Int.le_trans h.steps.2 hk⟩,num:=fun p i=>⟨(h.num p i).1,Int.le_trans (h.num p i).2 hk⟩}
theorem QF{f:Nat->Nat->Int}(h:∀p i,0<=f p i/\f p i<=k)(p i:Nat):0<=vS o f p i/\vS o f p i<=k+1:=by
 unfold vS;have:=h p i;split<;>omega
theorem iC.ends(h:iC k t)(n:Nat)(r:kq):iC k (iZ t n r):=by
 unfold iZ;refine⟨h.steps,h.num,fun m=>?_,fun m=>?_,h.inv,fun m=>?_,fun m=>?_⟩
 ·show(if m=n then ib else t.tab m).fails<=3;split
  ·exact aW _
  ·exact h.fails m
 ·show(if m=n then ib else t.tab m).does<=3;split
  ·exact aW _
  ·exact h.does m
 ·show(if m=n then ib else t.tab m).does=2\/(if m=n then ib else t.tab m).does=3->nk (if m=n then ib else t.tab m).seen;split
  ·intro e;simp[ib]at e
  ·exact h.seen m
 ·show(if m=n then ib else t.tab m).does≠0->_;split
  ·intro e;exact absurd rfl e
  ·rename_i hm;simp only[ay hm];exact h.ops m
theorem iC.put(h:iC k t)(n:Nat)(x:vR)(hf:x.fails<=3)(hd:x.does<=3)(hs:x.does=2\/x.does=3->nk x.seen)(ho:x.does≠0->x.op.user.size<=5000/\x.op.pass.size<=5000/\x.op.path.size<=5000):iC k (t.put n x):=by
 refine⟨h.steps,h.num,fun m=>?_,fun m=>?_,h.inv,fun m=>?_,fun m=>?_⟩
 ·show(if m=n then x else t.tab m).fails<=3;split
  ·exact hf
  ·exact h.fails m
 ·show(if m=n then x else t.tab m).does<=3;split
  ·exact hd
  ·exact h.does m
 ·show(if m=n then x else t.tab m).does=2\/(if m=n then x else t.tab m).does=3->nk (if m=n then x else t.tab m).seen;split
  ·exact hs
  ·exact h.seen m
 ·show(if m=n then x else t.tab m).does≠0->(if m=n then x else t.tab m).op.user.size<=5000/\(if m=n then x else t.tab m).op.pass.size<=5000/\(if m=n then x else t.tab m).op.path.size<=5000;split
  ·exact ho
  ·exact h.ops m
theorem iC.tick(h:iC k t):iC (k+1) {t with steps:=t.steps+1}:=by
 have g:=h.mono (show k<=k+1 from ab);exact{g with steps:=⟨by have:=h.steps.1;show 0<=t.steps+1;omega,by have:=h.steps.2;show t.steps+1<=k+1;omega⟩}
theorem iC.mr{k:Int}{t:iI}(h:iC k t)(n:Int)(o:jx)(ho:o.user.size<=5000/\o.pass.size<=5000/\o.path.size<=5000):iC (k+1) (Aj t n o).1:=by
 have g:=h.mono (show k<=k+1 from ab);unfold Aj;split
 ·split
  ·exact(h.put n.toNat {ib with does:=1,op:=o,mr:=t.steps+1} (aW _) (show 1<=3 from ag) (fun e=>by simp at e) (fun _=>ho)).tick
  ·exact g
 ·exact g
theorem iC.fail(h:iC k t)(n:Nat)(r:kq):iC k (iZ (t.put n {t.tab n with fails:=m}) n r):=by
 have e:iZ (t.put n {t.tab n with fails:=m}) n r=iZ t n r:=by
  unfold iZ iI.put;simp only[d_]
  congr 1
  funext i
  split
  ·rfl
  ·rfl
 rw[e];exact h.ends n r
theorem iC.adh(h:iC k t)(n:Nat)(hd:(t.tab n).does=3):iC (k+1) (jh t n).1:=by
 have g:=h.mono (show k<=k+1 from ab);unfold jh;split
 ·refine iC.ends ?_ n _;split
  ·exact{g with inv:=h.inv.take (h.seen n (Or.inr hd)) _ _,num:=QF h.num}
  ·exact g
 ·split
  ·rename_i hf;exact g.put n _ hf (show 1<=3 from ag) (fun e=>by simp at e) (fun _=>h.ops n ab)
  ·exact g.fail n _
theorem iC.stepT{k:Int}{t:iI}(h:iC k t)(n:Nat)(h0:(t.tab n).does≠0):iC (k+2) (stepT t n).1:=by
 unfold Go.Proofs.YtjndhcngnghpiaaGreatDoor.stepT;split
 ·have q:=(h.put n {t.tab n with seen:=t.w,num:=t.num,does:=2} (h.fails n) (show 2<=3 from ag) (fun _=>h.inv) (fun _=>h.ops n h0)).tick;exact q.mono ab
 ·split
  ·rename_i h2;have q:=(h.put n {t.tab n with fP:=(nj (t.tab n).seen (t.tab n).op).2,seen:=(nj (t.tab n).seen (t.tab n).op).1,does:=3} (h.fails n) (show 3<=3 from ag) (fun _=>(h.seen n (Or.inl h2)).nj _ (h.ops n h0).1 (h.ops n h0).2.1 (h.ops n h0).2.2) (fun _=>h.ops n h0)).tick;exact q.mono ab
  ·have hd:(t.tab n).does=3:=by have:=h.does n;omega
   exact(h.tick.adh n hd).mono ab
theorem iC.step(h:iC k t)(n:Int):iC (k+2) (kF t n).1:=by
 have g:=h.mono (show k<=k+2 from ab);unfold kF;split
 ·split
  ·exact g
  ·rename_i h0;exact h.stepT _ h0
 ·exact g
theorem rH.fr{w':World}{o:jI}(h:rH w o hs)(hf:Fr aX w w'):rH w' o hs:={h with aF:={h.aF with ef:=bM h.aF.ef hf}}
theorem Ow(h:i<6):xV (i:Int)=true:=by
 unfold xV;simp only[cF,dM];omega
theorem aaH{T:Nat}(h:dz xw a U T t)(i:Nat)(hi:i<6) :
  aE 11 #[.pointer (some ⟨T,0,none⟩),.int .i64 i] U fun e w'=>e=.returned (.int .i64 ((t.tab i).does:Nat))/\w'=U:=by
 obtain⟨B,g,sv,sb,h1,_⟩:=h.ex;have q:=Vz h1 (i:Int)
 rwa [show Ol t (i:Int)=(t.tab i).does by unfold Ol;rw[Ow hi];rfl]at q
theorem VA{u:iI}(hi:i<6)(hu:(u.tab i).does≠0):kF u i=((stepT u i).1,(stepT u i).2.1,(stepT u i).2.2,0):=by
 unfold kF;rw[Ow hi,aB rfl];exact ay hu
section
variable {a U U' : World} {B C : Nat} {pv qv : Nat → dn} {x x' y : ed}
end
theorem nk.re(h:nk x):∀i,i<4->(x.part i).bZ.length<68719476736/\(x.part i).waits.length<68719476736/\(x.part i).book.length<1000000/\(x.part i).eJ.length<=1000000:=fun i _=>by
 obtain⟨l1,l2,l3,l4⟩:=(h.ok.part i).re;exact⟨ab,ab,ab,ab⟩
theorem G8(t:iI)(n:Nat):(jh t n).1.ic.length<=t.ic.length+1:=by
 unfold jh;split
 ·split<;>simp[iZ]
 ·split
  ·simp[iI.put]
  ·simp[iZ,iI.put]
theorem DA(t:iI)(n:Int):(kF t n).1.ic.length<=t.ic.length+1:=by
 unfold kF;split
 ·split
  ·simp
  ·unfold stepT;split
   ·simp[iI.put]
   ·split
    ·simp[iI.put]
    ·exact G8 _ _
 ·simp
theorem FD(t:iI)(n:Int)(o:jx):(Aj t n o).1.ic=t.ic:=by
 unfold Aj;split
 ·split<;>rfl
 ·rfl
theorem Vy{xs:cX}{t:TypeId}(hx:∀x∈xs,x.length=22/\∀u∈x,u.oneCell'=true)(h:w.heap[n]?=some (.cells xs.flatten.toArray t (0,0)))(hm:m=xs.length)(hl:m<=4):ez 22 w (.slice (some ⟨n,0,none⟩) m m) xs:=by
 subst hm;refine⟨hx,Or.inr ⟨n,0,xs.length,rfl,az _,ft,bg h,fun j x hj i u hi=>?_⟩⟩;simp only[World.cell?,h,bw];have key:∀(ys:cX),(∀z∈ys,z.length=22)->∀(j:Nat) (z:a_) (i:Nat) (u:Value),ys[j]?=some z->z[i]?=some u->ys.flatten[j*22+i]?=some u:=by
  intro ys
  induction ys with
  |nil=>intro _ j z i u hj;cases j<;>cases hj
  |cons y ys ih =>
   intro hy j z i u hj hi;rw[List.flatten_cons];have EF:=hy y (cY ..);cases j with
   |zero =>
    have e:y=z:=by simpa using hj
    subst e;have hil:=(List.getElem?_eq_some_iff.1 hi).1;rw[gX,bw,List.getElem?_append_left ab];exact hi
   |succ j =>
    rw[List.getElem?_append_right ab,show(j+1)*22+i-y.length=j*22+i from ab];exact ih (fun z hz=>hy z (bV _ hz)) j z i u (by simpa using hj) hi
 simpa using key xs (fun z hz=>(hx z hz).1) j x i u hj hi
theorem G_.two{t:TypeId}{o q:jI}{qs:List gT}{ah ah':fi}{ch ch':Nat}(h:rH w o hs)(h':rH w q qs)(hh:o.aF.ef=.slice ah hs.length ch)(hh':q.aF.ef=.slice ah' qs.length ch')(hb:w.heap[n]?=some (.cells (o.cells++q.cells).toArray t (0,0))):G_ w (.slice (some ⟨n,0,none⟩) 2 2) [(o,hs),(q,qs)]:=by
 refine⟨Vy (xs:=[o.cells,q.cells]) (fun x hx=>?_) (by simpa using hb) rfl ag,aS,fun p hp=>?_⟩
 ·simp only[bE,bU,dL]at hx;rcases hx with rfl|rfl
  ·exact⟨rfl,Vq o hh⟩
  ·exact⟨rfl,Vq q hh'⟩
 ·simp only[bE,bU,dL]at hp;rcases hp with rfl|rfl
  ·exact h
  ·exact h'
theorem Q2(o q:jI)(hs qs:List gT):DG [(o,hs),(q,qs)]=!(oK (o,hs)||oK (q,qs)):=by
 unfold DG;simp
def ah4:jI:=⟨0,⟨0,⟨false,.empty,0⟩,⟨false,.empty,0⟩,.empty,.empty,.empty,.slice none 0 0,false,.empty⟩,false,.empty,.empty,.empty,.empty,0,false,0⟩
def zeroV:ql:=⟨ah4,[],.pointer none⟩
theorem YH(o:jI)(h:o.aF.ef.oneCell'=true):∀u∈o.cells,u.oneCell'=true:=by
 generalize hv:o.aF.ef.oneCell'=b at h;unfold jI.cells fW.cells;intro u hu;by_cases e:u=o.aF.ef
 ·rw[e,hv,h]
 ·simp only[List.cons_append,List.nil_append,bE,bU,dL,e,false_or]at hu;rcases hu with rfl|rfl|rfl|rfl|rfl|rfl|rfl|rfl|rfl|rfl|rfl|rfl|rfl|rfl|rfl|rfl|rfl|rfl|rfl|rfl|rfl<;>rfl
theorem Du(x:vR)(v:ql)(h:v.o.aF.ef.oneCell'=true)(hp:v.sp.oneCell'=true):(mU x v).toArray.all (·.oneCell')=true :=
 cE (by
  have ho:=YH v.o h;intro u hu;unfold mU kJ pU at hu;simp only[bE,bO,bU,dL]at hu;rcases hu with rfl|hu|hu
  ·rfl
  ·exact ho u hu
  ·rcases hu with rfl|rfl|rfl|hu
   ·rfl
   ·rfl
   ·exact hp
   ·rcases hu with hu|hu
    ·rcases hu with rfl|rfl|rfl|rfl|rfl|rfl|rfl|rfl|rfl|rfl|rfl|rfl|rfl|rfl|rfl|rfl<;>rfl
    ·rcases hu with rfl|rfl|rfl<;>rfl)
section
variable {xw : Option (Nat × ed)} {a U U' : World} {T : Nat} {t : iI}
theorem QD(h:dz xw a U T t)(hi:nk t.w) :
  aE 15 #[.pointer (some ⟨T,0,none⟩)] U (Ft a.heap.size U t.w):=by
 obtain⟨B,g,sv,sb,h1,h2,h3,h4⟩:=h.ex;obtain⟨pv,hw⟩:=h2.at (i:=6) (B:=B) (x:=t.w) rfl;have HC:=O (Ai _ _ _ _ _ hw hi.re);have c:=h1.main;clear h h1 h2 h3 h4 hw hi;go_enter func15,ntmps15;go_wp2_with fail
 refine HC.o.mono ?_;rintro e u hu;obtain⟨N,qv,rfl,hc⟩:=hu;have HH:=O hc;clear hc;go_wp2;go_ret;exact⟨N,qv,rfl,HH.o⟩
end
theorem QK{D:Nat}{qd:Nat->dn}{f:ed}(h:di base w B pv x)(hF:di base w D qd f)(hs:nk f)(part:Int){c:Nat}(hc:c=0\/c=1\/c=4\/c=7\/c=8\/c=10) :
  aE 54 #[.pointer (some ⟨B,0,none⟩),.pointer (some ⟨D,0,none⟩),.int .i64 part,.int .i64 c] w fun e w'=>e=.returned (.tuple #[])/\dy base w B pv (lu x f part c) w':=by
 have Rt:=O (Ai base w D qd f hF hs.re);have HH:=O h;have uo:=h.lt;have oH:=O uo;have HC:=O hc;clear h hF hs hc;by_cases h0:part<0
 ·have h1:¬(0:Int)<=part:=ab;have HX:=O (show lu x f part c=x by unfold lu;rw[ay ab]);clear Rt HC uo;go_enter func54,ntmps54;go_wp2
  try simp only[Exit.inBlock,Exit.then]
  refine aR (results_none rfl _ _ _) rfl ?_;rw[HX.o];exact⟨rfl,fx HH.o (ae _ _)⟩
 by_cases h4:4<=part
 ·have h1:(0:Int)<=part:=ab;have h5:¬part<4:=ab;have HX:=O (show lu x f part c=x by unfold lu;rw[ay ab]);clear Rt HC uo;go_enter func54,ntmps54;go_wp2
  try simp only[Exit.inBlock,Exit.then]
  refine aR (results_none rfl _ _ _) rfl ?_;rw[HX.o];exact⟨rfl,fx HH.o (ae _ _)⟩
 obtain⟨i,hi,zD⟩:∃i:Nat,part=(i:Int)/\i<4:=⟨part.toNat,ab,ab⟩;subst hi;have RM:(i:Int)<4:=ab;have rL:¬(i:Int)<0:=ab;have SM:¬(4:Int)<=(i:Int):=ab;have Pp:(0:Int)<=(i:Int):=ab;have sr:=O zD;clear h0 h4;go_enter func54,ntmps54;go_wp2_with fail
 refine Rt.o.mono ?_;rintro e u⟨N,qc,rfl,hcw,hu,hn⟩;have HCW:=O hcw;have HN:=O hn;have HU:=O (show∀n,Fr aX u (u.drewN n)from fun n=>dE n (ae aX u));have HWU:=O hu;clear hcw hu hn Rt;go_wp2_with fail
 go_quiet (fail);have uV:=HU.o nq;generalize u.drewN nq=u1 at uV ⊢;have QL:=O (HCW.o.dx uV);have KY:=O (HWU.o.trans uV);have hBN:¬B=N:=by have a1:=HN.o N (Or.inl rfl);omega
 have hNB:¬N=B:=fun e=>hBN e.symm;have htd:=fun(c:Nat) (b0 b1 b2 b3:Bool) (h0:c.testBit 0=b0) (h1:c.testBit 1=b1) (h2:c.testBit 2=b2) (h3:c.testBit 3=b3)=>QJ HH.o KY.o QL.o HN.o sr.o (part:=(i:Int)) rfl h0 h1 h2 h3;unfold Ot at htd;have hN:=QL.o.partAt sr.o;have n0:=hN.cell0;have n1:=hN.gU;have n2:=hN.lQ;have n3:u1.cell? ⟨N,12,none⟩=some (.int .i64 f.now):=by
  have j:=QL.o.eK;simp only[World.cell?,j];rfl
 have hB:=(HH.o.dx KY.o).partAt sr.o;have b0:=hB.cell0;have b1:=hB.gU;have b2:=hB.lQ;have b3:u1.cell? ⟨B,12,none⟩=some (.int .i64 x.now):=by
  have j:=(HH.o.dx KY.o).eK;simp only[World.cell?,j];rfl
 have f0:=hB.free (i*3);have f1:=hB.free (i*3+1);have f2:=hB.free (i*3+2);have f3:=hB.free 12;have atN:B<u1.heap.size:=bg hB.eK;have atO:N<u1.heap.size:=bg hN.eK;obtain⟨ca,ck,Qn⟩:=(QL.o.part i sr.o).eJ.form;rw[aj]at Qn;rw[Qn]at n2 htd;have HTD:=O htd;clear htd;obtain⟨cb,cl,hcg⟩:=((HH.o.dx KY.o).part i sr.o).eJ.form;rw[aj]at hcg;rw[hcg]at b2;clear hN hB uV QL KY HU HWU HN HCW HH Qn hcg uo
 rcases HC.o with rfl|rfl|rfl|rfl|rfl|rfl
 ·clear HC;go_wp2_with fail
  go_end0;exact⟨rfl,HTD.o _ false false false false ag ag ag ag⟩
 ·clear HC;go_wp2_with fail
  go_end0;exact⟨rfl,HTD.o _ true false false false ag ag ag ag⟩
 ·clear HC;go_wp2_with fail
  go_end0;exact⟨rfl,HTD.o _ false false true false ag ag ag ag⟩
 ·clear HC;go_wp2_with fail
  go_end0;exact⟨rfl,HTD.o _ true true true false ag ag ag ag⟩
 ·clear HC;go_wp2_with fail
  go_end0;exact⟨rfl,HTD.o _ false false false true ag ag ag ag⟩
 ·clear HC;go_wp2_with fail
  go_end0;exact⟨rfl,HTD.o _ false true false true ag ag ag ag⟩
