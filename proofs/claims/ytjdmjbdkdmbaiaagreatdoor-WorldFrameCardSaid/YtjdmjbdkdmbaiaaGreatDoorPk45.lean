/- Dorefused, Doanswered, Docheck, Doallowed. -/
import Derived.Test.YtjdmjbdkdmbaiaaGreatDoorPk44
import Derived.Test.YtjdmjbdkdmbaiaaGreatDoorPk43
set_option maxRecDepth 100000
set_option maxHeartbeats 16000000
set_option linter.unusedSimpArgs false
namespace Go.Proofs.YtjdmjbdkdmbaiaaGreatDoor
open Go.RowKit
theorem Hs(base:Nat)(w:World)(B:Nat)(pv:Nat->bB)(x:bW)(o:ei)(hs:List dW)(h:aR base w B pv x)(hf:bg w o hs)(hi:fW x)(a:World)(mq:fN a)(mo:a.heap.size<=base)(mr:Fr ay a w)(hr:(o.bF hs).right=true)(hw:o.what=2) :
  Calls Tryz.prog 17 #[.pointer (some ⟨B,0,none⟩),.agg o.cells.toArray] w (eG base w B pv (cV x (o.bF hs))):=by
 have qR:B<w.heap.size:=h.lt;have ku:=h.low;obtain⟨ah,ch,df⟩:=hf.eJ;obtain⟨w2,bK⟩:∃w2,w2=(w.alloc (.cells o.cells.toArray 33)).alloc (.cells aM 39):=⟨_,rfl⟩;have bq:Fr ay w w2:=by rw[bK];exact((Fr.refl ay w).alloc _).alloc _
 have k1:w2.heap[w.heap.size]?=some (.cells o.cells.toArray 33 (0,0)):=by rw[bK];exact((Fr.refl ay _).alloc _).keep (af _ _) (fun h=>h)
 have k2:w2.heap[w.heap.size+1]?=some (.cells aM 39 (0,0)):=by
  have h:=af (w.alloc (.cells o.cells.toArray 33)) (.cells aM 39);rw[World.size_alloc]at h;rw[bK];exact h
 have oJ:=O (gF o hs w2 (hf.bd bq));have HH:=O (h.bd bq);have HF:=O (hf.bd bq);have fX:=O df;have HI:=O hi;have dk:=O bq;have iw:=O k1;have mX:=O k2;have j6:=O (show base<=w.heap.size by omega);have q_:=O ku;have j8:=O qR;have L':=O mq;have Hl:=O (mr.trans bq);have Nb:=O mo;rw[bK]at k1;rw[aZ df]at bK oJ k1 ⊢;unfold aM at bK k1;have ka:=O bK;have uw:=O k1;clear bK df bq k1 k2 h hf hi mq mo mr
 obtain⟨i,px,wD⟩:∃i:Nat,o.ab.part=(i:Int)/\i<4:=by
  obtain⟨h0,h1⟩:=fl hr;have XB:0<=o.ab.part:=h0;have JG:o.ab.part<4:=h1;exact⟨o.ab.part.toNat,by omega,by omega⟩
 have Nr:(i:Int)<4:=by omega
 have qD:¬(i:Int)<0:=by omega
 have Oh:¬(4:Int)<=(i:Int):=by omega
 have Lb:(0:Int)<=(i:Int):=by omega
 have nR:=O wD;have uH:=O px;obtain⟨r,wT⟩:∃r,r=ee (x.part i) (o.bF hs):=⟨_,rfl⟩;have HR:=O (show cV x (o.bF hs)=(x.set i r.1,r.2)by rw[kO hr px (by show o.what≠10;omega),wT,apq (show(o.bF hs).what=2 from hw)]);rw[hr]at oJ;have HM:=O (show∀U,Fr ay w2 U->Calls Tryz.prog 55 #[.pointer (some ⟨B,i*3,none⟩),.agg o.cells.toArray] U (bL base U B (fo pv x.now) (i*3) (pv i) r)from fun U hU=>by
  have h:=Fi base U B (i*3) (fo pv x.now) (pv i) (x.part i) o hs ((HH.out.bd hU).part i nR.out) ((HH.out.bd hU).partAt nR.out) q_.out (HF.out.bd hU) (HI.out.ok.part i);rw[<-wT]at h;exact h)
 rw[aZ fX.out]at HM;have HW:=O hw;clear hr hw wT wD px;go_enter Tryz.func17,Tryz.ntmps17;go_wp2_with (first|((with_reducible refine ag ⟨some 8,_,_,_,_,_⟩ ?_);go_must(refine wpList_load_row rfl 33 (.tmp 3) rfl w.heap.size rfl _ _ (0,0) _ uw.out Tryz.underlying33 rfl (by kernel_rfl) ?_))|fail)
 rw[<-ka.out];refine oJ.out.mono ?_;rintro e u⟨rfl,hu⟩;obtain⟨a0,a1,a2,a3,a4,a5,a6,a7,a8,a9,eK,eL,a12,eH,eM,eC,eW,eX,eY,fc,a20,a21⟩:=bJ (hu.keep iw.out (fun h=>h)) fX.out;rw[uH.out]at a1;clear a0 a2 a3 a4 a5 a6 a7 a8 a9 eK eL a12 eH eM eC eW eX eY fc a20 a21;have kP:=O (show∀n,Fr ay w2 (u.drewN n)from fun n=>Fr.drewN n hu);clear hu uw;go_wp2_with fail
 go_quiet (fail);clear a1;have ie:=kP.out nq;generalize u.drewN nq=u1 at ie ⊢;have np:=O ie;clear ie kP;have zh:=O (np.out.keep iw.out (fun h=>h));rw[aZ fX.out]at zh;obtain⟨a0,a1,a2,a3,a4,a5,a6,a7,a8,a9,eK,eL,a12,eH,eM,eC,eW,eX,eY,fc,a20,a21⟩:=bJ (np.out.keep iw.out (fun h=>h)) fX.out;rw[uH.out]at a1;have rf:=HW.out;rw[rf]at a0;clear rf
 clear a1 a2 a3 a4 a5 a6 a7 a8 a9 eK eL a12 eH eM eC eW eX eY fc a20 a21;go_wp2_with (first|((with_reducible refine ag ⟨some 29,_,_,_,_,_⟩ ?_);go_must(refine wpList_load_row rfl 33 (.tmp 3) rfl w.heap.size rfl _ _ (0,0) _ zh.out Tryz.underlying33 rfl (by kernel_rfl) ?_))|fail)
 have nr:=np.out;refine(HM.out _ nr).mono ?_;rintro e u5⟨rfl,hp⟩;unfold nk.val;have E7:=nr.keep mX.out (fun h=>h);have j5:=O (ji (HH.out.bd nr) nR.out hp E7 aD (by omega));have HP:=O (show aC base w B pv (x.set i r.1) u5 from aC.after dk.out (aC.after nr (aR.step (HH.out.bd nr) nR.out hp)));clear hp E7 nr HM
 go_wp2_with (first|((with_reducible refine ag ⟨none,.store 39 _ _,_,_,_,_⟩ ?_);go_must(refine wpList_store_row rfl 39 (.tmp 4) (.tmp 30) rfl (w.heap.size+1) #[.int .i64 r.2.what,.string r.2.head,.int .i64 r.2.cert] rfl rfl _ aM j5.out (az _ rfl) rfl (by simp[Value.oneCell']) ?_))|fail)
 refine bodyPost_ret (results_cell_row (by rfl) _ _ (w.heap.size+1) 39 #[.int .i64 r.2.what,.string r.2.head,.int .i64 r.2.cert] (0,0) _ rfl (setRow_heap _ (w.heap.size+1) _ _ _ _ j5.out) Tryz.underlying39 rfl (az _ rfl)) rfl ?_;unfold eG;rw[HR.out];exact⟨rfl,aC.row HP.out j6.out j8.out (Nat.le_succ _) j5.out aD (by decide) _⟩
theorem Fo(base:Nat)(w:World)(B:Nat)(pv:Nat->bB)(x:bW)(o:ei)(hs:List dW)(h:aR base w B pv x)(hf:bg w o hs)(hi:fW x)(a:World)(mq:fN a)(mo:a.heap.size<=base)(mr:Fr ay a w)(hr:(o.bF hs).right=true)(hw:o.what=3) :
  Calls Tryz.prog 17 #[.pointer (some ⟨B,0,none⟩),.agg o.cells.toArray] w (eG base w B pv (cV x (o.bF hs))):=by
 have qR:B<w.heap.size:=h.lt;have ku:=h.low;obtain⟨ah,ch,df⟩:=hf.eJ;obtain⟨w2,bK⟩:∃w2,w2=(w.alloc (.cells o.cells.toArray 33)).alloc (.cells aM 39):=⟨_,rfl⟩;have bq:Fr ay w w2:=by rw[bK];exact((Fr.refl ay w).alloc _).alloc _
 have k1:w2.heap[w.heap.size]?=some (.cells o.cells.toArray 33 (0,0)):=by rw[bK];exact((Fr.refl ay _).alloc _).keep (af _ _) (fun h=>h)
 have k2:w2.heap[w.heap.size+1]?=some (.cells aM 39 (0,0)):=by
  have h:=af (w.alloc (.cells o.cells.toArray 33)) (.cells aM 39);rw[World.size_alloc]at h;rw[bK];exact h
 have oJ:=O (gF o hs w2 (hf.bd bq));have HH:=O (h.bd bq);have HF:=O (hf.bd bq);have fX:=O df;have HI:=O hi;have dk:=O bq;have iw:=O k1;have mX:=O k2;have j6:=O (show base<=w.heap.size by omega);have q_:=O ku;have j8:=O qR;have L':=O mq;have Hl:=O (mr.trans bq);have Nb:=O mo;rw[bK]at k1;rw[aZ df]at bK oJ k1 ⊢;unfold aM at bK k1;have ka:=O bK;have uw:=O k1;clear bK df bq k1 k2 h hf hi mq mo mr
 obtain⟨i,px,wD⟩:∃i:Nat,o.ab.part=(i:Int)/\i<4:=by
  obtain⟨h0,h1⟩:=fl hr;have XB:0<=o.ab.part:=h0;have JG:o.ab.part<4:=h1;exact⟨o.ab.part.toNat,by omega,by omega⟩
 have Nr:(i:Int)<4:=by omega
 have qD:¬(i:Int)<0:=by omega
 have Oh:¬(4:Int)<=(i:Int):=by omega
 have Lb:(0:Int)<=(i:Int):=by omega
 have nR:=O wD;have uH:=O px;obtain⟨r,wT⟩:∃r,r=ef (x.part i) (o.bF hs):=⟨_,rfl⟩;have HR:=O (show cV x (o.bF hs)=(x.set i r.1,r.2)by rw[kO hr px (by show o.what≠10;omega),wT,ah7 (show(o.bF hs).what=3 from hw)]);rw[hr]at oJ;have HM:=O (show∀U,Fr ay w2 U->Calls Tryz.prog 56 #[.pointer (some ⟨B,i*3,none⟩),.agg o.cells.toArray] U (bL base U B (fo pv x.now) (i*3) (pv i) r)from fun U hU=>by
  have h:=Cv base U B (i*3) (fo pv x.now) (pv i) (x.part i) o hs ((HH.out.bd hU).part i nR.out) ((HH.out.bd hU).partAt nR.out) q_.out (HF.out.bd hU) (HI.out.ok.part i) (HI.out.path i);rw[<-wT]at h;exact h)
 rw[aZ fX.out]at HM;have HW:=O hw;clear hr hw wT wD px;go_enter Tryz.func17,Tryz.ntmps17;go_wp2_with (first|((with_reducible refine ag ⟨some 8,_,_,_,_,_⟩ ?_);go_must(refine wpList_load_row rfl 33 (.tmp 3) rfl w.heap.size rfl _ _ (0,0) _ uw.out Tryz.underlying33 rfl (by kernel_rfl) ?_))|fail)
 rw[<-ka.out];refine oJ.out.mono ?_;rintro e u⟨rfl,hu⟩;obtain⟨a0,a1,a2,a3,a4,a5,a6,a7,a8,a9,eK,eL,a12,eH,eM,eC,eW,eX,eY,fc,a20,a21⟩:=bJ (hu.keep iw.out (fun h=>h)) fX.out;rw[uH.out]at a1;clear a0 a2 a3 a4 a5 a6 a7 a8 a9 eK eL a12 eH eM eC eW eX eY fc a20 a21;have kP:=O (show∀n,Fr ay w2 (u.drewN n)from fun n=>Fr.drewN n hu);clear hu uw;go_wp2_with fail
 go_quiet (fail);clear a1;have ie:=kP.out nq;generalize u.drewN nq=u1 at ie ⊢;have np:=O ie;clear ie kP;have zh:=O (np.out.keep iw.out (fun h=>h));rw[aZ fX.out]at zh;obtain⟨a0,a1,a2,a3,a4,a5,a6,a7,a8,a9,eK,eL,a12,eH,eM,eC,eW,eX,eY,fc,a20,a21⟩:=bJ (np.out.keep iw.out (fun h=>h)) fX.out;rw[uH.out]at a1;have rf:=HW.out;rw[rf]at a0;clear rf
 clear a1 a2 a3 a4 a5 a6 a7 a8 a9 eK eL a12 eH eM eC eW eX eY fc a20 a21;go_wp2_with (first|((with_reducible refine ag ⟨some 34,_,_,_,_,_⟩ ?_);go_must(refine wpList_load_row rfl 33 (.tmp 3) rfl w.heap.size rfl _ _ (0,0) _ zh.out Tryz.underlying33 rfl (by kernel_rfl) ?_))|fail)
 have nr:=np.out;refine(HM.out _ nr).mono ?_;rintro e u5⟨rfl,hp⟩;unfold nk.val;have E7:=nr.keep mX.out (fun h=>h);have j5:=O (ji (HH.out.bd nr) nR.out hp E7 aD (by omega));have HP:=O (show aC base w B pv (x.set i r.1) u5 from aC.after dk.out (aC.after nr (aR.step (HH.out.bd nr) nR.out hp)));clear hp E7 nr HM
 go_wp2_with (first|((with_reducible refine ag ⟨none,.store 39 _ _,_,_,_,_⟩ ?_);go_must(refine wpList_store_row rfl 39 (.tmp 4) (.tmp 35) rfl (w.heap.size+1) #[.int .i64 r.2.what,.string r.2.head,.int .i64 r.2.cert] rfl rfl _ aM j5.out (az _ rfl) rfl (by simp[Value.oneCell']) ?_))|fail)
 refine bodyPost_ret (results_cell_row (by rfl) _ _ (w.heap.size+1) 39 #[.int .i64 r.2.what,.string r.2.head,.int .i64 r.2.cert] (0,0) _ rfl (setRow_heap _ (w.heap.size+1) _ _ _ _ j5.out) Tryz.underlying39 rfl (az _ rfl)) rfl ?_;unfold eG;rw[HR.out];exact⟨rfl,aC.row HP.out j6.out j8.out (Nat.le_succ _) j5.out aD (by decide) _⟩
theorem Qe(base:Nat)(w:World)(B:Nat)(pv:Nat->bB)(x:bW)(o:ei)(hs:List dW)(h:aR base w B pv x)(hf:bg w o hs)(hi:fW x)(a:World)(mq:fN a)(mo:a.heap.size<=base)(mr:Fr ay a w)(hr:(o.bF hs).right=true)(hw:o.what=4) :
  Calls Tryz.prog 17 #[.pointer (some ⟨B,0,none⟩),.agg o.cells.toArray] w (eG base w B pv (cV x (o.bF hs))):=by
 have qR:B<w.heap.size:=h.lt;have ku:=h.low;obtain⟨ah,ch,df⟩:=hf.eJ;obtain⟨w2,bK⟩:∃w2,w2=(w.alloc (.cells o.cells.toArray 33)).alloc (.cells aM 39):=⟨_,rfl⟩;have bq:Fr ay w w2:=by rw[bK];exact((Fr.refl ay w).alloc _).alloc _
 have k1:w2.heap[w.heap.size]?=some (.cells o.cells.toArray 33 (0,0)):=by rw[bK];exact((Fr.refl ay _).alloc _).keep (af _ _) (fun h=>h)
 have k2:w2.heap[w.heap.size+1]?=some (.cells aM 39 (0,0)):=by
  have h:=af (w.alloc (.cells o.cells.toArray 33)) (.cells aM 39);rw[World.size_alloc]at h;rw[bK];exact h
 have oJ:=O (gF o hs w2 (hf.bd bq));have HH:=O (h.bd bq);have HF:=O (hf.bd bq);have fX:=O df;have HI:=O hi;have dk:=O bq;have iw:=O k1;have mX:=O k2;have j6:=O (show base<=w.heap.size by omega);have q_:=O ku;have j8:=O qR;have L':=O mq;have Hl:=O (mr.trans bq);have Nb:=O mo;rw[bK]at k1;rw[aZ df]at bK oJ k1 ⊢;unfold aM at bK k1;have ka:=O bK;have uw:=O k1;clear bK df bq k1 k2 h hf hi mq mo mr
 obtain⟨i,px,wD⟩:∃i:Nat,o.ab.part=(i:Int)/\i<4:=by
  obtain⟨h0,h1⟩:=fl hr;have XB:0<=o.ab.part:=h0;have JG:o.ab.part<4:=h1;exact⟨o.ab.part.toNat,by omega,by omega⟩
 have Nr:(i:Int)<4:=by omega
 have qD:¬(i:Int)<0:=by omega
 have Oh:¬(4:Int)<=(i:Int):=by omega
 have Lb:(0:Int)<=(i:Int):=by omega
 have nR:=O wD;have uH:=O px;have C0:=O (show cV x (o.bF hs)=(x,rep (if hZ (x.part i).book (o.ab.bF hs) x.now then 5 else 4))by
  rw[kO hr px (by show o.what≠10;omega),apr (show(o.bF hs).what=4 from hw),bW.ug];rfl)
 rw[hr]at oJ
 have wS:=O (show∀U,Fr ay w2 U->Calls Tryz.prog 57 #[.pointer (some ⟨(pv i).k,0,none⟩),.agg #[.int .i64 (i:Int),.bool o.ab.aI.ae,.string o.ab.aI.host,.int .i64 o.ab.aI.port,.bool o.ab.o.ae,.string o.ab.o.host,.int .i64 o.ab.o.port,.string o.ab.path,.string o.ab.query,.string o.ab.method,.slice ah hs.length ch,.bool o.ab.bP,.string o.ab.body],.int .i64 x.now] U fun e w'=>e=.returned (.bool (hZ (x.part i).book (o.ab.bF hs) x.now))/\Fr ay U w' from fun U hU=>by
  have h:=Ff base U (pv i).k (pv i).kv (x.part i).book o.ab hs x.now ((HH.out.bd hU).part i nR.out).book (Nat.lt_of_le_of_lt (HI.out.ok.part i).xc.2.2.1 (by decide)) (HF.out.bd hU).cU HF.out.ab;rw[ur fX.out,uH.out]at h;exact h)
 have HC:=O (show∀U,Fr ay w2 U->(U.cell? ⟨B,i*3+1,none⟩=some (.pointer (some ⟨(pv i).k,0,none⟩))/\U.cell? ⟨B,12,none⟩=some (.int .i64 x.now)/\U.cell? ⟨w.heap.size,1,none⟩=some (.int .i64 (i:Int))/\U.cell? ⟨w.heap.size,2,none⟩=some (.bool o.ab.aI.ae)/\U.cell? ⟨w.heap.size,3,none⟩=some (.string o.ab.aI.host)/\U.cell? ⟨w.heap.size,4,none⟩=some (.int .i64 o.ab.aI.port)/\U.cell? ⟨w.heap.size,5,none⟩=some (.bool o.ab.o.ae)/\U.cell? ⟨w.heap.size,6,none⟩=some (.string o.ab.o.host)/\U.cell? ⟨w.heap.size,7,none⟩=some (.int .i64 o.ab.o.port)/\U.cell? ⟨w.heap.size,8,none⟩=some (.string o.ab.path)/\U.cell? ⟨w.heap.size,9,none⟩=some (.string o.ab.query)/\U.cell? ⟨w.heap.size,10,none⟩=some (.string o.ab.method)/\U.cell? ⟨w.heap.size,11,none⟩=some (.slice ah hs.length ch)/\U.cell? ⟨w.heap.size,12,none⟩=some (.bool o.ab.bP)/\U.cell? ⟨w.heap.size,13,none⟩=some (.string o.ab.body))from fun U hU=>by
  have j1:=(HH.out.bd hU).partAt nR.out;have j2:=(HH.out.bd hU).cR;obtain⟨a0,a1,a2,a3,a4,a5,a6,a7,a8,a9,eK,eL,a12,eH,eM,eC,eW,eX,eY,fc,a20,a21⟩:=bJ (hU.keep iw.out (fun h=>h)) fX.out;rw[uH.out]at a1;exact⟨j1.dM,by simp only[World.cell?,j2];rfl,a1,a2,a3,a4,a5,a6,a7,a8,a9,eK,eL,a12,eH⟩)
 have HW:=O hw;clear hr hw wD px;go_enter Tryz.func17,Tryz.ntmps17;go_wp2_with (first|((with_reducible refine ag ⟨some 8,_,_,_,_,_⟩ ?_);go_must(refine wpList_load_row rfl 33 (.tmp 3) rfl w.heap.size rfl _ _ (0,0) _ uw.out Tryz.underlying33 rfl (by kernel_rfl) ?_))|fail)
 rw[<-ka.out];refine oJ.out.mono ?_;rintro e u⟨rfl,hu⟩;obtain⟨a0,a1,a2,a3,a4,a5,a6,a7,a8,a9,eK,eL,a12,eH,eM,eC,eW,eX,eY,fc,a20,a21⟩:=bJ (hu.keep iw.out (fun h=>h)) fX.out;rw[uH.out]at a1;clear a0 a2 a3 a4 a5 a6 a7 a8 a9 eK eL a12 eH eM eC eW eX eY fc a20 a21;have kP:=O (show∀n,Fr ay w2 (u.drewN n)from fun n=>Fr.drewN n hu);clear hu uw;go_wp2_with fail
 go_quiet (fail);clear a1;have ie:=kP.out nq;generalize u.drewN nq=u1 at ie ⊢;have np:=O ie;clear ie kP;have zh:=O (np.out.keep iw.out (fun h=>h));rw[aZ fX.out]at zh;obtain⟨a0,a1,a2,a3,a4,a5,a6,a7,a8,a9,eK,eL,a12,eH,eM,eC,eW,eX,eY,fc,a20,a21⟩:=bJ (np.out.keep iw.out (fun h=>h)) fX.out;rw[uH.out]at a1;have rf:=HW.out;rw[rf]at a0;clear rf
 clear a1 a2 a3 a4 a5 a6 a7 a8 a9 eK eL a12 eH eM eC eW eX eY fc a20 a21;cases hb:hZ (x.part i).book (o.ab.bF hs) x.now
 ·skip
  have HR:=O (C0.out.trans (by rw[hb];rfl:_=(x,rep 4)));rw[hb]at wS;clear hb C0;go_wp2_with fail
  go_region_held3 (fun U=>Fr ay w2 U/\U.cell? ⟨B,i*3+1,none⟩=some (.pointer (some ⟨(pv i).k,0,none⟩))/\U.cell? ⟨B,12,none⟩=some (.int .i64 x.now)/\U.cell? ⟨w.heap.size,1,none⟩=some (.int .i64 (i:Int))/\U.cell? ⟨w.heap.size,2,none⟩=some (.bool o.ab.aI.ae)/\U.cell? ⟨w.heap.size,3,none⟩=some (.string o.ab.aI.host)/\U.cell? ⟨w.heap.size,4,none⟩=some (.int .i64 o.ab.aI.port)/\U.cell? ⟨w.heap.size,5,none⟩=some (.bool o.ab.o.ae)/\U.cell? ⟨w.heap.size,6,none⟩=some (.string o.ab.o.host)/\U.cell? ⟨w.heap.size,7,none⟩=some (.int .i64 o.ab.o.port)/\U.cell? ⟨w.heap.size,8,none⟩=some (.string o.ab.path)/\U.cell? ⟨w.heap.size,9,none⟩=some (.string o.ab.query)/\U.cell? ⟨w.heap.size,10,none⟩=some (.string o.ab.method)/\U.cell? ⟨w.heap.size,11,none⟩=some (.slice ah hs.length ch)/\U.cell? ⟨w.heap.size,12,none⟩=some (.bool o.ab.bP)/\U.cell? ⟨w.heap.size,13,none⟩=some (.string o.ab.body)) ((refine(fun hU=>⟨hU,HC.out _ hU⟩) ?_;first|exact Fr.drew np.out|assumption))
   ((first
    |(go_at_call 57;refine(wS.out _ (Fr.drew np.out)).mono ?_;rintro e u5 ⟨rfl,gH⟩;have nQ:Fr ay w2 u5:=(Fr.drew np.out).trans gH)))
  have HP:=O (show aC base w B pv x u5 from aC.after dk.out (aC.same HH.out nQ));have j5:=O (nQ.keep mX.out (fun h=>h));clear gH nQ HC wS
  go_wp2_with (first|((with_reducible refine ag ⟨none,.store 39 _ _,_,_,_,_⟩ ?_);go_must(refine wpList_store_row rfl 39 (.tmp 4) (.tmp 50) rfl (w.heap.size+1) #[.int .i64 4,.string ⟨#[]⟩,.int .i64 0] rfl rfl _ aM j5.out (az _ rfl) rfl (by simp[Value.oneCell']) ?_))|fail)
  refine bodyPost_ret (results_cell_row (by rfl) _ _ (w.heap.size+1) 39 #[.int .i64 4,.string ⟨#[]⟩,.int .i64 0] (0,0) _ rfl (setRow_heap _ (w.heap.size+1) _ _ _ _ j5.out) Tryz.underlying39 rfl (az _ rfl)) rfl ?_;unfold eG;rw[HR.out];exact⟨rfl,aC.row HP.out j6.out j8.out (Nat.le_succ _) j5.out aD (by decide) _⟩
 ·skip
  have HR:=O (C0.out.trans (by rw[hb];rfl:_=(x,rep 5)));rw[hb]at wS;clear hb C0;go_wp2_with fail
  go_region_held3 (fun U=>Fr ay w2 U/\U.cell? ⟨B,i*3+1,none⟩=some (.pointer (some ⟨(pv i).k,0,none⟩))/\U.cell? ⟨B,12,none⟩=some (.int .i64 x.now)/\U.cell? ⟨w.heap.size,1,none⟩=some (.int .i64 (i:Int))/\U.cell? ⟨w.heap.size,2,none⟩=some (.bool o.ab.aI.ae)/\U.cell? ⟨w.heap.size,3,none⟩=some (.string o.ab.aI.host)/\U.cell? ⟨w.heap.size,4,none⟩=some (.int .i64 o.ab.aI.port)/\U.cell? ⟨w.heap.size,5,none⟩=some (.bool o.ab.o.ae)/\U.cell? ⟨w.heap.size,6,none⟩=some (.string o.ab.o.host)/\U.cell? ⟨w.heap.size,7,none⟩=some (.int .i64 o.ab.o.port)/\U.cell? ⟨w.heap.size,8,none⟩=some (.string o.ab.path)/\U.cell? ⟨w.heap.size,9,none⟩=some (.string o.ab.query)/\U.cell? ⟨w.heap.size,10,none⟩=some (.string o.ab.method)/\U.cell? ⟨w.heap.size,11,none⟩=some (.slice ah hs.length ch)/\U.cell? ⟨w.heap.size,12,none⟩=some (.bool o.ab.bP)/\U.cell? ⟨w.heap.size,13,none⟩=some (.string o.ab.body)) ((refine(fun hU=>⟨hU,HC.out _ hU⟩) ?_;first|exact Fr.drew np.out|assumption))
   ((first
    |(go_at_call 57;refine(wS.out _ (Fr.drew np.out)).mono ?_;rintro e u5 ⟨rfl,gH⟩;have nQ:Fr ay w2 u5:=(Fr.drew np.out).trans gH)))
  have HP:=O (show aC base w B pv x u5 from aC.after dk.out (aC.same HH.out nQ));have j5:=O (nQ.keep mX.out (fun h=>h));clear gH nQ HC wS
  go_wp2_with (first|((with_reducible refine ag ⟨none,.store 39 _ _,_,_,_,_⟩ ?_);go_must(refine wpList_store_row rfl 39 (.tmp 4) (.tmp 49) rfl (w.heap.size+1) #[.int .i64 5,.string ⟨#[]⟩,.int .i64 0] rfl rfl _ aM j5.out (az _ rfl) rfl (by simp[Value.oneCell']) ?_))|fail)
  refine bodyPost_ret (results_cell_row (by rfl) _ _ (w.heap.size+1) 39 #[.int .i64 5,.string ⟨#[]⟩,.int .i64 0] (0,0) _ rfl (setRow_heap _ (w.heap.size+1) _ _ _ _ j5.out) Tryz.underlying39 rfl (az _ rfl)) rfl ?_;unfold eG;rw[HR.out];exact⟨rfl,aC.row HP.out j6.out j8.out (Nat.le_succ _) j5.out aD (by decide) _⟩
theorem vw{w:World}{b:Nat}{cs:List Value}{t:TypeId}(h:w.heap[b]?=some (.cells cs.toArray t (0,0))):w.rangeAt b 0 cs:=fun j v hv=>by
 simp only[World.cell?,h];simpa using hv
theorem Ht(base:Nat)(w:World)(B:Nat)(pv:Nat->bB)(x:bW)(o:ei)(hs:List dW)(h:aR base w B pv x)(hf:bg w o hs)(hi:fW x)(a:World)(mq:fN a)(mo:a.heap.size<=base)(mr:Fr ay a w)(hr:(o.bF hs).right=true)(hw:o.what=5) :
  Calls Tryz.prog 17 #[.pointer (some ⟨B,0,none⟩),.agg o.cells.toArray] w (eG base w B pv (cV x (o.bF hs))):=by
 have qR:B<w.heap.size:=h.lt;have ku:=h.low;obtain⟨ah,ch,df⟩:=hf.eJ;obtain⟨w2,bK⟩:∃w2,w2=(w.alloc (.cells o.cells.toArray 33)).alloc (.cells aM 39):=⟨_,rfl⟩;have bq:Fr ay w w2:=by rw[bK];exact((Fr.refl ay w).alloc _).alloc _
 have k1:w2.heap[w.heap.size]?=some (.cells o.cells.toArray 33 (0,0)):=by rw[bK];exact((Fr.refl ay _).alloc _).keep (af _ _) (fun h=>h)
 have k2:w2.heap[w.heap.size+1]?=some (.cells aM 39 (0,0)):=by
  have h:=af (w.alloc (.cells o.cells.toArray 33)) (.cells aM 39);rw[World.size_alloc]at h;rw[bK];exact h
 have oJ:=O (gF o hs w2 (hf.bd bq));have HH:=O (h.bd bq);have HF:=O (hf.bd bq);have fX:=O df;have HI:=O hi;have dk:=O bq;have iw:=O k1;have mX:=O k2;have j6:=O (show base<=w.heap.size by omega);have q_:=O ku;have j8:=O qR;have L':=O mq;have Hl:=O (mr.trans bq);have Nb:=O mo;rw[bK]at k1;rw[aZ df]at bK oJ k1 ⊢;unfold aM at bK k1;have ka:=O bK;have uw:=O k1;clear bK df bq k1 k2 h hf hi mq mo mr
 obtain⟨i,px,wD⟩:∃i:Nat,o.ab.part=(i:Int)/\i<4:=by
  obtain⟨h0,h1⟩:=fl hr;have XB:0<=o.ab.part:=h0;have JG:o.ab.part<4:=h1;exact⟨o.ab.part.toNat,by omega,by omega⟩
 have Nr:(i:Int)<4:=by omega
 have qD:¬(i:Int)<0:=by omega
 have Oh:¬(4:Int)<=(i:Int):=by omega
 have Lb:(0:Int)<=(i:Int):=by omega
 have nR:=O wD;have uH:=O px;obtain⟨r,wT⟩:∃r,r=fS (x.part i) x.now (o.bF hs):=⟨_,rfl⟩;have HR:=O (show cV x (o.bF hs)=(x.set i r.1,r.2)by rw[kO hr px (by show o.what≠10;omega),wT,aps (show(o.bF hs).what=5 from hw)]);rw[hr]at oJ
 have HM:=O (show∀U,Fr ay w2 U->Calls Tryz.prog 58 #[.pointer (some ⟨B,i*3,none⟩),.agg o.cells.toArray,.int .i64 x.now] U (bL base U B (fo pv x.now) (i*3) (pv i) r)from fun U hU=>by
  have h:=Fg base U B (i*3) (fo pv x.now) (pv i) (x.part i) o hs x.now ((HH.out.bd hU).part i nR.out) ((HH.out.bd hU).partAt nR.out) q_.out (HF.out.bd hU) (HI.out.ok.part i) (L'.out.pw.fr (Hl.out.trans hU)) HI.out.ok.now.1 HI.out.ok.now.2;rw[<-wT]at h;exact h)
 rw[aZ fX.out]at HM
 have HC:=O (show∀U,Fr ay w2 U->(U.heap[w.heap.size]?=some (.cells #[.int .i64 o.what,.int .i64 o.ab.part,.bool o.ab.aI.ae,.string o.ab.aI.host,.int .i64 o.ab.aI.port,.bool o.ab.o.ae,.string o.ab.o.host,.int .i64 o.ab.o.port,.string o.ab.path,.string o.ab.query,.string o.ab.method,.slice ah hs.length ch,.bool o.ab.bP,.string o.ab.body,.bool o.proxy,.string o.text,.string o.user,.string o.pass,.string o.aB,.int .i64 o.cert,.bool o.all,.int .i64 o.n] 33 (0,0))/\U.cell? ⟨B,12,none⟩=some (.int .i64 x.now))from fun U hU=>by
  have j2:=(HH.out.bd hU).cR;exact⟨by rw[<-aZ fX.out];exact hU.keep iw.out (fun h=>h),by simp only[World.cell?,j2];rfl⟩)
 have HW:=O hw;clear hr hw wT wD px;go_enter Tryz.func17,Tryz.ntmps17;go_wp2_with (first|((with_reducible refine ag ⟨some 8,_,_,_,_,_⟩ ?_);go_must(refine wpList_load_row rfl 33 (.tmp 3) rfl w.heap.size rfl _ _ (0,0) _ uw.out Tryz.underlying33 rfl (by kernel_rfl) ?_))|fail)
 rw[<-ka.out];refine oJ.out.mono ?_;rintro e u⟨rfl,hu⟩;obtain⟨a0,a1,a2,a3,a4,a5,a6,a7,a8,a9,eK,eL,a12,eH,eM,eC,eW,eX,eY,fc,a20,a21⟩:=bJ (hu.keep iw.out (fun h=>h)) fX.out;rw[uH.out]at a1;clear a0 a2 a3 a4 a5 a6 a7 a8 a9 eK eL a12 eH eM eC eW eX eY fc a20 a21;have kP:=O (show∀n,Fr ay w2 (u.drewN n)from fun n=>Fr.drewN n hu);clear hu uw;go_wp2_with fail
 go_quiet (fail);clear a1;have ie:=kP.out nq;generalize u.drewN nq=u1 at ie ⊢;have np:=O ie;clear ie kP;have zh:=O (np.out.keep iw.out (fun h=>h));rw[aZ fX.out]at zh;obtain⟨a0,a1,a2,a3,a4,a5,a6,a7,a8,a9,eK,eL,a12,eH,eM,eC,eW,eX,eY,fc,a20,a21⟩:=bJ (np.out.keep iw.out (fun h=>h)) fX.out;rw[uH.out]at a1;have rf:=HW.out;rw[rf]at a0;clear rf
 clear a1 a2 a3 a4 a5 a6 a7 a8 a9 eK eL a12 eH eM eC eW eX eY fc a20 a21;go_wp2_with fail
 refine wp_region_held_drew (S:=(fun U=>U.heap[w.heap.size]?=some (.cells #[.int .i64 o.what,.int .i64 o.ab.part,.bool o.ab.aI.ae,.string o.ab.aI.host,.int .i64 o.ab.aI.port,.bool o.ab.o.ae,.string o.ab.o.host,.int .i64 o.ab.o.port,.string o.ab.path,.string o.ab.query,.string o.ab.method,.slice ah hs.length ch,.bool o.ab.bP,.string o.ab.body,.bool o.proxy,.string o.text,.string o.user,.string o.pass,.string o.aB,.int .i64 o.cert,.bool o.all,.int .i64 o.n] 33 (0,0))/\U.cell? ⟨B,12,none⟩=some (.int .i64 x.now))) (by kernel_rfl) (HC.out _ (Fr.drew np.out)) ?_
 intro cW;refine tk 0 ⟨some 53,_,_,_,_,_⟩ (v:=?_) rfl (by rfl) ?hy ?_
 case hy=>(intro w hSw;(try dsimp only at hSw);go_simp<;>with_reducible rfl)
 try simp only[Act.put,sA,sB,sC]
 refine wpAnyH_take (i:=1) (oi:=⟨some 54,_,_,_,_,_⟩) rfl (by kernel_rfl) (by kernel_rfl) (by kernel_rfl) (fun _ _ _ h=>h) (yieldsIf_load_mid (by rfl) 33 (.tmp 3) rfl w.heap.size 0 rfl [.int .i64 o.what,.int .i64 o.ab.part,.bool o.ab.aI.ae,.string o.ab.aI.host,.int .i64 o.ab.aI.port,.bool o.ab.o.ae,.string o.ab.o.host,.int .i64 o.ab.o.port,.string o.ab.path,.string o.ab.query,.string o.ab.method,.slice ah hs.length ch,.bool o.ab.bP,.string o.ab.body,.bool o.proxy,.string o.text,.string o.user,.string o.pass,.string o.aB,.int .i64 o.cert,.bool o.all,.int .i64 o.n] _ (fun U hU=>vw hU.1) Tryz.underlying33 rfl (by kernel_rfl)) (by assumption) ?_
 try simp only[Act.put,sA,sB,sC]
 refine tk 2 ⟨some 55,_,_,_,_,_⟩ (v:=?_) rfl (by rfl) ?hy ?_
 case hy=>(intro w hSw;(try dsimp only at hSw);go_simp<;>with_reducible rfl)
 try simp only[Act.put,sA,sB,sC]
 refine tk 3 ⟨some 56,_,_,_,_,_⟩ (v:=?_) rfl (by rfl) ?hy ?_
 case hy=>(intro w hSw;(try dsimp only at hSw);go_simp<;>with_reducible rfl)
 try simp only[Act.put,sA,sB,sC]
 refine tk 4 ⟨some 57,_,_,_,_,_⟩ (v:=?_) rfl (by rfl) ?hy ?_
 case hy=>(intro w hSw;(try dsimp only at hSw);go_simp<;>with_reducible rfl)
 try simp only[Act.put,sA,sB,sC]
 refine tk 5 ⟨some 58,_,_,_,_,_⟩ (v:=?_) rfl (by rfl) ?hy ?_
 case hy=>(intro w hSw;(try dsimp only at hSw);go_simp<;>with_reducible rfl)
 try simp only[Act.put,sA,sB,sC]
 refine wpAnyH_ready (rs:=[6]) (by kernel_rfl) (by simp) ?_;refine AllReadyH.cons rfl (fun K hK=>?_) AllReadyH.nil;go_simp;have nr:=Fr.drew np.out;refine(HM.out _ nr).mono ?_;rintro e u5⟨rfl,hp⟩;unfold nk.val;have E7:=nr.keep mX.out (fun h=>h);have j5:=O (ji (HH.out.bd nr) nR.out hp E7 aD (by omega));have hko:=ji (HH.out.bd nr) nR.out hp (HC.out _ nr).1 aO (by omega)
 have HP:=O (show aC base w B pv (x.set i r.1) u5 from aC.after dk.out (aC.after nr (aR.step (HH.out.bd nr) nR.out hp)));have aiN:u5.cell? ⟨B,12,none⟩=some (.int .i64 x.now):=by
  obtain⟨v',_,_,_,h4⟩:=hp;rw[yL pv x.now nR.out]at h4;simp only[World.cell?,h4];rfl
 have HS5:=O (And.intro hko aiN);have rA:=O (show B<u5.heap.size by obtain⟨v',_,_,_,h4⟩:=hp;exact aj h4);clear hp E7 nr HM hko aiN;refine hK.out _ _ HS5.out ?_;intro CY;clear hK cW K
 try simp only[Act.put,sA,sB,sC]
 refine wpAnyH_ready (rs:=[7]) (by kernel_rfl) (by simp) ?_;refine AllReadyH.cons rfl (fun K hK=>?_) AllReadyH.nil;refine aJ rfl 39 (.tmp 4) (.tmp 59) rfl (w.heap.size+1) #[.int .i64 r.2.what,.string r.2.head,.int .i64 r.2.cert] rfl rfl 39 aM j5.out (az _ rfl) rfl (by simp[Value.oneCell']) ?_
 have aW:=(Fr.refl (one (w.heap.size+1)) u5).setRow (fun _=>rfl) #[.int .i64 r.2.what,.string r.2.head,.int .i64 r.2.cert];refine hK.out _ _ ⟨aW.keep HS5.out.1 (fun e=>by have e':w.heap.size=w.heap.size+1:=e;omega),(aW.cell (p:=⟨B,12,none⟩) rA.out (fun e=>by have e':B=w.heap.size+1:=e;have:=j8.out;omega)).trans HS5.out.2⟩ ?_;intro G_;clear hK CY K G_ aW
 try simp only[Act.put,sA,sB,sC]
 refine wpAnyH_done (by kernel_rfl) ?_ _;go_wp2_with fail
 refine bodyPost_ret (results_cell_row (by rfl) _ _ (w.heap.size+1) 39 #[.int .i64 r.2.what,.string r.2.head,.int .i64 r.2.cert] (0,0) _ rfl (setRow_heap _ (w.heap.size+1) _ _ _ _ j5.out) Tryz.underlying39 rfl (az _ rfl)) rfl ?_;unfold eG;rw[HR.out];exact⟨rfl,aC.row HP.out j6.out j8.out (Nat.le_succ _) j5.out aD (by decide) _⟩
end Go.Proofs.YtjdmjbdkdmbaiaaGreatDoor
