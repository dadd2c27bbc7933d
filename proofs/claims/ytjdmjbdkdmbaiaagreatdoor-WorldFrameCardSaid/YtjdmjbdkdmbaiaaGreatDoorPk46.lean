/- Dopick, Dochoose, Dotick, Dogone, Do, Played. -/
import Derived.Test.YtjdmjbdkdmbaiaaGreatDoorPk41
import Derived.Test.YtjdmjbdkdmbaiaaGreatDoorPk45
set_option maxRecDepth 100000
set_option maxHeartbeats 16000000
set_option linter.unusedSimpArgs false
namespace Go.Proofs.YtjdmjbdkdmbaiaaGreatDoor
open Go.RowKit
def aiO(w:World)(l:List (cO×Int))(o:cO)(i:Value)(wr:World):Prop :=
 ∃k:Nat,k<=l.length/\i=.int .i64 k/\(l.take k).find? (fun c=>c.1.eN o)=none/\Fr ay w wr
theorem Mo{l:List (cO×Int)}{o:cO}{k:Nat}{c:cO×Int}(h:l[k]?=some c)(hn:(l.take k).find? (fun c=>c.1.eN o)=none)(hc:c.1.eN o=false):(l.take (k+1)).find? (fun c=>c.1.eN o)=none:=by
 rw[bz h,List.find?_append,hn];simp[hc]
theorem Qh{l:List (cO×Int)}{o:cO}{k:Nat}{c:cO×Int}(h:l[k]?=some c)(hn:(l.take k).find? (fun c=>c.1.eN o)=none)(hc:c.1.eN o=true):l.find? (fun c=>c.1.eN o)=some c:=by
 have e:l=l.take (k+1)++l.drop (k+1):=(List.take_append_drop _ _).symm;rw[e,bz h,List.find?_append,List.find?_append,hn];simp[hc]
theorem VE(base:Nat)(w:World)(B:Nat)(pv:Nat->bB)(x:bW)(o:ei)(hs:List dW)(h:aR base w B pv x)(hf:bg w o hs)(hi:fW x)(a:World)(mq:fN a)(mo:a.heap.size<=base)(mr:Fr ay a w)(hr:(o.bF hs).right=true)(hw:o.what=6) :
  Calls Tryz.prog 17 #[.pointer (some ⟨B,0,none⟩),.agg o.cells.toArray] w (eG base w B pv (cV x (o.bF hs))):=by
 have qR:B<w.heap.size:=h.lt;have ku:=h.low;obtain⟨ah,ch,df⟩:=hf.eJ;obtain⟨w2,bK⟩:∃w2,w2=(w.alloc (.cells o.cells.toArray 33)).alloc (.cells aM 39):=⟨_,rfl⟩;have bq:Fr ay w w2:=by rw[bK];exact((Fr.refl ay w).alloc _).alloc _
 have k1:w2.heap[w.heap.size]?=some (.cells o.cells.toArray 33 (0,0)):=by rw[bK];exact((Fr.refl ay _).alloc _).keep (af _ _) (fun h=>h)
 have k2:w2.heap[w.heap.size+1]?=some (.cells aM 39 (0,0)):=by
  have h:=af (w.alloc (.cells o.cells.toArray 33)) (.cells aM 39);rw[World.size_alloc]at h;rw[bK];exact h
 have oJ:=O (gF o hs w2 (hf.bd bq));have HH:=O (h.bd bq);have HF:=O (hf.bd bq);have fX:=O df;have HI:=O hi;have dk:=O bq;have iw:=O k1;have mX:=O k2;have j6:=O (show base<=w.heap.size by omega);have q_:=O ku;have j8:=O qR;have L':=O mq;have Hl:=O (mr.trans bq);have Nb:=O mo;rw[bK]at k1;rw[aZ df]at bK oJ k1 ⊢;unfold aM at bK k1;have ka:=O bK;have uw:=O k1;clear bK df bq k1 k2 h hf hi mq mo mr
 obtain⟨i,px,wD⟩:∃i:Nat,o.ab.part=(i:Int)/\i<4:=by
  obtain⟨h0,h1⟩:=fl hr;have XB:0<=o.ab.part:=h0;have JG:o.ab.part<4:=h1;exact⟨o.ab.part.toNat,by omega,by omega⟩
 have Nr:(i:Int)<4:=by omega
 have qD:¬(i:Int)<0:=by omega
 have Oh:¬(4:Int)<=(i:Int):=by omega
 have Lb:(0:Int)<=(i:Int):=by omega
 have nR:=O wD;have uH:=O px;have HR:=O (show cV x (o.bF hs)=(x,AV (x.part i) (o.bF hs))by
  rw[kO hr px (by show o.what≠10;omega),ah8 (show(o.bF hs).what=6 from hw),bW.ug])
 rw[hr]at oJ;obtain⟨l,hl⟩:∃l,l=(x.part i).dh:=⟨_,rfl⟩;obtain⟨cv,hcv⟩:∃cv,cv=(pv i).cv:=⟨_,rfl⟩;have ux:aN 4 w2 cv (l.map ic):=by rw[hl,hcv];exact(HH.out.part i nR.out).dh.at
 have hl8:l.length<=1000000:=by rw[hl];exact Nat.le_trans (HI.out.ok.part i).xc.2.2.2 (by decide)
 obtain⟨av,cc,cA⟩:=ux.form;rw[List.length_map]at cA;subst cA;have ap6:=O ux;have hpk:AV (x.part i) (o.bF hs)=match l.find? (fun c=>c.1.eN o.ab.o)with|some c=>⟨1,.empty,c.2⟩|none=>rep 3:=by rw[hl];rfl
 rw[hpk]at HR;have wS:=O hcv;have HW:=O hw;clear hr hw wD px hl hpk ux hcv;go_enter Tryz.func17,Tryz.ntmps17;go_wp2_with (first|((with_reducible refine ag ⟨some 8,_,_,_,_,_⟩ ?_);go_must(refine wpList_load_row rfl 33 (.tmp 3) rfl w.heap.size rfl _ _ (0,0) _ uw.out Tryz.underlying33 rfl (by kernel_rfl) ?_))|fail)
 rw[<-ka.out];refine oJ.out.mono ?_;rintro e u⟨rfl,hu⟩;obtain⟨a0,a1,a2,a3,a4,a5,a6,a7,a8,a9,eK,eL,a12,eH,eM,eC,eW,eX,eY,fc,a20,a21⟩:=bJ (hu.keep iw.out (fun h=>h)) fX.out;rw[uH.out]at a1;clear a0 a2 a3 a4 a5 a6 a7 a8 a9 eK eL a12 eH eM eC eW eX eY fc a20 a21;have kP:=O (show∀n,Fr ay w2 (u.drewN n)from fun n=>Fr.drewN n hu);clear hu uw;go_wp2_with fail
 go_quiet (fail);clear a1;have ie:=kP.out nq;generalize u.drewN nq=u1 at ie ⊢;have np:=O ie;clear ie kP;have zh:=O (np.out.keep iw.out (fun h=>h));rw[aZ fX.out]at zh;obtain⟨a0,a1,a2,a3,a4,a5,a6,a7,a8,a9,eK,eL,a12,eH,eM,eC,eW,eX,eY,fc,a20,a21⟩:=bJ (np.out.keep iw.out (fun h=>h)) fX.out;rw[uH.out]at a1;have rf:=HW.out;rw[rf]at a0;clear rf;clear a1 a2 a3 a4 a8 a9 eK eL a12 eH eM eC eW eX eY fc a20 a21
 have HP1:=O (show u1.cell? ⟨B,i*3+2,none⟩=some (.slice av l.length cc)from by rw[wS.out];exact((HH.out.bd np.out).partAt nR.out).ir);have p1:=HP1.out;go_wp2_with fail
 go_loopw[67] (aiO u1 l o.ab.o) (fun i _=>l.length-(intOf i).toNat)
 case atStart=>exact⟨0,Nat.zero_le _,rfl,rfl,Fr.refl _ _⟩
 case round =>
  obtain⟨k,hk,rfl,hn,aW⟩:=hrel;have HN:=O hn;have py:=O (np.out.trans aW);have Na:=O aW;clear hn;by_cases cG:k<l.length
  ·have lf:(k:Int)<(l.length:Int):=by omega
   rcases(ap6.out.bu py.out).2 with ⟨_,_,_,e,_⟩|⟨bk,of,c,hf,h1,h2,h3,h4⟩
   ·have D':=congrArg List.length e;rw[List.length_map,List.length_nil]at D';omega
   ·rw[List.length_map]at hf;cases hf;rw[List.length_map]at h1;unfold maxLen at h2;obtain⟨q,bC⟩:∃q,l[k]?=some q:=⟨_,List.getElem?_eq_getElem cG⟩;have hcell:=h4 k (ic q) (by rw[List.getElem?_map,bC];rfl);have P2:=O bC;have gD:(ic q).length=4:=rfl;have heq:=ey q.1 o.ab.o;obtain⟨a0,a1,a2,a3,a4,a5,a6,a7,a8,a9,eK,eL,a12,eH,eM,eC,eW,eX,eY,fc,a20,a21⟩:=bJ (py.out.keep iw.out (fun h=>h)) fX.out
    have HB8:=O (af wr (.cells #[.bool q.1.ae,.string q.1.host,.int .i64 q.1.port,.int .i64 q.2] 109));have dF:Fr ay wr (wr.alloc (.cells #[.bool q.1.ae,.string q.1.host,.int .i64 q.1.port,.int .i64 q.2] 109)):=(Fr.refl ay wr).alloc _;have g5:=(dF.keep (py.out.keep iw.out (fun h=>h)) (fun h=>h));obtain⟨b0,b1,b2,b3,b4,b5,b6,b7,b8,b9,U3,U4,U5,b13,b14,b15,b16,b17,b18,b19,b20,b21⟩:=bJ g5 fX.out
    have nj:=O (py.out.trans dF);have gS:=O (Na.out.trans dF);have j5:=O (nj.out.keep mX.out (fun h=>h));clear h4 bC dF g5 a0 a1 a2 a3 a4 a5 a6 a7 a8 a9 eK eL a12 eH eM eC eW eX eY fc a20 a21 b0 b1 b2 b3 b4 b8 b9 U3 U4 U5 b13 b14 b15 b16 b17 b18 b19 b20 b21 aW;unfold ic at hcell gD;cases hq:q.1.eN o.ab.o
    ·have Ur:=O (Mo P2.out HN.out hq);rw[hq]at heq;clear hq;go_wp2_with (first|((with_reducible refine ag ⟨some 70,_,_,_,_,_⟩ ?_);go_must(refine wpList_load_mid rfl 109 (.tmp 69) rfl bk (of+k*4) rfl _ _ hcell Tryz.underlying109 rfl (by kernel_rfl) ?_))|fail)
     go_roundw
     case rel=>exact⟨k+1,by omega,by go_num,Ur.out,gS.out⟩
     case measure=>simp[intOf];omega
    ·have yX:=O (Qh P2.out HN.out hq);rw[yX.out]at HR;rw[hq]at heq;have HP:=O (show aC base w B pv x _ from aC.after dk.out (aC.same HH.out nj.out));clear hq
     go_wp2_with (first|((with_reducible refine ag ⟨some 70,_,_,_,_,_⟩ ?_);go_must(refine wpList_load_mid rfl 109 (.tmp 69) rfl bk (of+k*4) rfl _ _ hcell Tryz.underlying109 rfl (by kernel_rfl) ?_))|((with_reducible refine ag ⟨none,.store 39 _ _,_,_,_,_⟩ ?_);go_must(refine wpList_store_row rfl 39 (.tmp 4) (.tmp 80) rfl (w.heap.size+1) #[.int .i64 1,.string ⟨#[]⟩,.int .i64 q.2] rfl rfl _ aM j5.out (az _ rfl) rfl (by simp[Value.oneCell']) ?_))|fail)
     refine bodyPost_ret (results_cell_row (by rfl) _ _ (w.heap.size+1) 39 #[.int .i64 1,.string ⟨#[]⟩,.int .i64 q.2] (0,0) _ rfl (setRow_heap _ (w.heap.size+1) _ _ _ _ j5.out) Tryz.underlying39 rfl (az _ rfl)) rfl ?_;unfold eG;rw[HR.out];exact⟨rfl,aC.row HP.out j6.out j8.out (Nat.le_succ _) j5.out aD (by decide) _⟩
  ·have hke:k=l.length:=by omega
   subst hke;have HHN:=O (show l.find? (fun c=>c.1.eN o.ab.o)=none by have h:=HN.out;rw[List.take_length]at h;exact h);rw[HHN.out]at HR;have HP:=O (show aC base w B pv x wr from aC.after dk.out (aC.same HH.out py.out));have j5:=O (py.out.keep mX.out (fun h=>h));clear aW
   go_wp2_with (first|((with_reducible refine ag ⟨none,.store 39 _ _,_,_,_,_⟩ ?_);go_must(refine wpList_store_row rfl 39 (.tmp 4) (.tmp 82) rfl (w.heap.size+1) #[.int .i64 3,.string ⟨#[]⟩,.int .i64 0] rfl rfl _ aM j5.out (az _ rfl) rfl (by simp[Value.oneCell']) ?_))|fail)
   refine bodyPost_ret (results_cell_row (by rfl) _ _ (w.heap.size+1) 39 #[.int .i64 3,.string ⟨#[]⟩,.int .i64 0] (0,0) _ rfl (setRow_heap _ (w.heap.size+1) _ _ _ _ j5.out) Tryz.underlying39 rfl (az _ rfl)) rfl ?_;unfold eG;rw[HR.out];exact⟨rfl,aC.row HP.out j6.out j8.out (Nat.le_succ _) j5.out aD (by decide) _⟩
theorem Mq(base:Nat)(w:World)(B:Nat)(pv:Nat->bB)(x:bW)(o:ei)(hs:List dW)(h:aR base w B pv x)(hf:bg w o hs)(hi:fW x)(a:World)(mq:fN a)(mo:a.heap.size<=base)(mr:Fr ay a w)(hr:(o.bF hs).right=true)(hw:o.what=7) :
  Calls Tryz.prog 17 #[.pointer (some ⟨B,0,none⟩),.agg o.cells.toArray] w (eG base w B pv (cV x (o.bF hs))):=by
 have qR:B<w.heap.size:=h.lt;have ku:=h.low;obtain⟨ah,ch,df⟩:=hf.eJ;obtain⟨w2,bK⟩:∃w2,w2=(w.alloc (.cells o.cells.toArray 33)).alloc (.cells aM 39):=⟨_,rfl⟩;have bq:Fr ay w w2:=by rw[bK];exact((Fr.refl ay w).alloc _).alloc _
 have k1:w2.heap[w.heap.size]?=some (.cells o.cells.toArray 33 (0,0)):=by rw[bK];exact((Fr.refl ay _).alloc _).keep (af _ _) (fun h=>h)
 have k2:w2.heap[w.heap.size+1]?=some (.cells aM 39 (0,0)):=by
  have h:=af (w.alloc (.cells o.cells.toArray 33)) (.cells aM 39);rw[World.size_alloc]at h;rw[bK];exact h
 have oJ:=O (gF o hs w2 (hf.bd bq));have HH:=O (h.bd bq);have HF:=O (hf.bd bq);have fX:=O df;have HI:=O hi;have dk:=O bq;have iw:=O k1;have mX:=O k2;have j6:=O (show base<=w.heap.size by omega);have q_:=O ku;have j8:=O qR;have L':=O mq;have Hl:=O (mr.trans bq);have Nb:=O mo;rw[bK]at k1;rw[aZ df]at bK oJ k1 ⊢;unfold aM at bK k1;have ka:=O bK;have uw:=O k1;clear bK df bq k1 k2 h hf hi mq mo mr
 obtain⟨i,px,wD⟩:∃i:Nat,o.ab.part=(i:Int)/\i<4:=by
  obtain⟨h0,h1⟩:=fl hr;have XB:0<=o.ab.part:=h0;have JG:o.ab.part<4:=h1;exact⟨o.ab.part.toNat,by omega,by omega⟩
 have Nr:(i:Int)<4:=by omega
 have qD:¬(i:Int)<0:=by omega
 have Oh:¬(4:Int)<=(i:Int):=by omega
 have Lb:(0:Int)<=(i:Int):=by omega
 have nR:=O wD;have uH:=O px;obtain⟨r,wT⟩:∃r,r=jU (x.part i) (o.bF hs):=⟨_,rfl⟩;have HR:=O (show cV x (o.bF hs)=(x.set i r.1,r.2)by rw[kO hr px (by show o.what≠10;omega),wT,apt (show(o.bF hs).what=7 from hw)]);rw[hr]at oJ;have HM:=O (show∀U,Fr ay w2 U->Calls Tryz.prog 59 #[.pointer (some ⟨B,i*3,none⟩),.agg o.cells.toArray] U (bL base U B (fo pv x.now) (i*3) (pv i) r)from fun U hU=>by
  have h:=Hx base U B (i*3) (fo pv x.now) (pv i) (x.part i) o hs ((HH.out.bd hU).part i nR.out) ((HH.out.bd hU).partAt nR.out) q_.out (HF.out.bd hU) (HI.out.ok.part i);rw[<-wT]at h;exact h)
 rw[aZ fX.out]at HM;have HW:=O hw;clear hr hw wT wD px;go_enter Tryz.func17,Tryz.ntmps17;go_wp2_with (first|((with_reducible refine ag ⟨some 8,_,_,_,_,_⟩ ?_);go_must(refine wpList_load_row rfl 33 (.tmp 3) rfl w.heap.size rfl _ _ (0,0) _ uw.out Tryz.underlying33 rfl (by kernel_rfl) ?_))|fail)
 rw[<-ka.out];refine oJ.out.mono ?_;rintro e u⟨rfl,hu⟩;obtain⟨a0,a1,a2,a3,a4,a5,a6,a7,a8,a9,eK,eL,a12,eH,eM,eC,eW,eX,eY,fc,a20,a21⟩:=bJ (hu.keep iw.out (fun h=>h)) fX.out;rw[uH.out]at a1;clear a0 a2 a3 a4 a5 a6 a7 a8 a9 eK eL a12 eH eM eC eW eX eY fc a20 a21;have kP:=O (show∀n,Fr ay w2 (u.drewN n)from fun n=>Fr.drewN n hu);clear hu uw;go_wp2_with fail
 go_quiet (fail);clear a1;have ie:=kP.out nq;generalize u.drewN nq=u1 at ie ⊢;have np:=O ie;clear ie kP;have zh:=O (np.out.keep iw.out (fun h=>h));rw[aZ fX.out]at zh;obtain⟨a0,a1,a2,a3,a4,a5,a6,a7,a8,a9,eK,eL,a12,eH,eM,eC,eW,eX,eY,fc,a20,a21⟩:=bJ (np.out.keep iw.out (fun h=>h)) fX.out;rw[uH.out]at a1;have rf:=HW.out;rw[rf]at a0;clear rf
 clear a1 a2 a3 a4 a5 a6 a7 a8 a9 eK eL a12 eH eM eC eW eX eY fc a20 a21;go_wp2_with (first|((with_reducible refine ag ⟨some 86,_,_,_,_,_⟩ ?_);go_must(refine wpList_load_row rfl 33 (.tmp 3) rfl w.heap.size rfl _ _ (0,0) _ zh.out Tryz.underlying33 rfl (by kernel_rfl) ?_))|fail)
 have nr:=np.out;refine(HM.out _ nr).mono ?_;rintro e u5⟨rfl,hp⟩;unfold nk.val;have E7:=nr.keep mX.out (fun h=>h);have j5:=O (ji (HH.out.bd nr) nR.out hp E7 aD (by omega));have HP:=O (show aC base w B pv (x.set i r.1) u5 from aC.after dk.out (aC.after nr (aR.step (HH.out.bd nr) nR.out hp)));clear hp E7 nr HM
 go_wp2_with (first|((with_reducible refine ag ⟨none,.store 39 _ _,_,_,_,_⟩ ?_);go_must(refine wpList_store_row rfl 39 (.tmp 4) (.tmp 87) rfl (w.heap.size+1) #[.int .i64 r.2.what,.string r.2.head,.int .i64 r.2.cert] rfl rfl _ aM j5.out (az _ rfl) rfl (by simp[Value.oneCell']) ?_))|fail)
 refine bodyPost_ret (results_cell_row (by rfl) _ _ (w.heap.size+1) 39 #[.int .i64 r.2.what,.string r.2.head,.int .i64 r.2.cert] (0,0) _ rfl (setRow_heap _ (w.heap.size+1) _ _ _ _ j5.out) Tryz.underlying39 rfl (az _ rfl)) rfl ?_;unfold eG;rw[HR.out];exact⟨rfl,aC.row HP.out j6.out j8.out (Nat.le_succ _) j5.out aD (by decide) _⟩
theorem aR.aa7{base:Nat}{w:World}{B:Nat}{pv:Nat->bB}{x:bW}(h:aR base w B pv x)(n:Int):aR base (w.setCell ⟨B,12,none⟩ (.int .i64 n)) B pv {x with now:=n}/\Fr (one B) w (w.setCell ⟨B,12,none⟩ (.int .i64 n)):=by
 have fM:Fr (one B) w (w.setCell ⟨B,12,none⟩ (.int .i64 n)):=(Fr.refl (one B) w).setCell (p:=⟨B,12,none⟩) (fun _=>rfl) _;refine⟨⟨h.low,?_,fun i hi=>(h.part i hi).fr fM h.aai (fun k hk e=>h.EK hi (by have e':k=B:=e;rw[<-e'];exact hk)),h.apart⟩,fM⟩;rw[aP h.cR 12 (.int .i64 n)];rfl
theorem VG(base:Nat)(w:World)(B:Nat)(pv:Nat->bB)(x:bW)(o:ei)(hs:List dW)(h:aR base w B pv x)(hf:bg w o hs)(hi:fW x)(a:World)(mq:fN a)(mo:a.heap.size<=base)(mr:Fr ay a w)(hr:(o.bF hs).right=true)(hw:o.what=10) :
  Calls Tryz.prog 17 #[.pointer (some ⟨B,0,none⟩),.agg o.cells.toArray] w (eG base w B pv (cV x (o.bF hs))):=by
 have qR:B<w.heap.size:=h.lt;have ku:=h.low;obtain⟨ah,ch,df⟩:=hf.eJ;obtain⟨w2,bK⟩:∃w2,w2=(w.alloc (.cells o.cells.toArray 33)).alloc (.cells aM 39):=⟨_,rfl⟩;have bq:Fr ay w w2:=by rw[bK];exact((Fr.refl ay w).alloc _).alloc _
 have k1:w2.heap[w.heap.size]?=some (.cells o.cells.toArray 33 (0,0)):=by rw[bK];exact((Fr.refl ay _).alloc _).keep (af _ _) (fun h=>h)
 have k2:w2.heap[w.heap.size+1]?=some (.cells aM 39 (0,0)):=by
  have h:=af (w.alloc (.cells o.cells.toArray 33)) (.cells aM 39);rw[World.size_alloc]at h;rw[bK];exact h
 have oJ:=O (gF o hs w2 (hf.bd bq));have HH:=O (h.bd bq);have HF:=O (hf.bd bq);have fX:=O df;have HI:=O hi;have dk:=O bq;have iw:=O k1;have mX:=O k2;have j6:=O (show base<=w.heap.size by omega);have q_:=O ku;have j8:=O qR;have L':=O mq;have Hl:=O (mr.trans bq);have Nb:=O mo;rw[bK]at k1;rw[aZ df]at bK oJ k1 ⊢;unfold aM at bK k1;have ka:=O bK;have uw:=O k1;clear bK df bq k1 k2 h hf hi mq mo mr
 obtain⟨i,px,wD⟩:∃i:Nat,o.ab.part=(i:Int)/\i<4:=by
  obtain⟨h0,h1⟩:=fl hr;have XB:0<=o.ab.part:=h0;have JG:o.ab.part<4:=h1;exact⟨o.ab.part.toNat,by omega,by omega⟩
 have Nr:(i:Int)<4:=by omega
 have qD:¬(i:Int)<0:=by omega
 have Oh:¬(4:Int)<=(i:Int):=by omega
 have Lb:(0:Int)<=(i:Int):=by omega
 have nR:=O wD;have uH:=O px;have C0:=O (show cV x (o.bF hs)=if o.n<0\/1099511627776-x.now<o.n then(x,rep 7)else({x with now:=x.now+o.n},rep 1)from uh hr hw);rw[hr]at oJ;have n0:=HI.out.ok.now.1;have n1:=HI.out.ok.now.2;have on:=HF.out.n;have HW:=O hw;clear hr hw wD px;go_enter Tryz.func17,Tryz.ntmps17
 go_wp2_with (first|((with_reducible refine ag ⟨some 8,_,_,_,_,_⟩ ?_);go_must(refine wpList_load_row rfl 33 (.tmp 3) rfl w.heap.size rfl _ _ (0,0) _ uw.out Tryz.underlying33 rfl (by kernel_rfl) ?_))|fail)
 rw[<-ka.out];refine oJ.out.mono ?_;rintro e u⟨rfl,hu⟩;obtain⟨a0,a1,a2,a3,a4,a5,a6,a7,a8,a9,eK,eL,a12,eH,eM,eC,eW,eX,eY,fc,a20,a21⟩:=bJ (hu.keep iw.out (fun h=>h)) fX.out;rw[uH.out]at a1;clear a0 a2 a3 a4 a5 a6 a7 a8 a9 eK eL a12 eH eM eC eW eX eY fc a20 a21;have kP:=O (show∀n,Fr ay w2 (u.drewN n)from fun n=>Fr.drewN n hu);clear hu uw;go_wp2_with fail
 go_quiet (fail);clear a1;have ie:=kP.out nq;generalize u.drewN nq=u1 at ie ⊢;have np:=O ie;clear ie kP;have zh:=O (np.out.keep iw.out (fun h=>h));rw[aZ fX.out]at zh;obtain⟨a0,a1,a2,a3,a4,a5,a6,a7,a8,a9,eK,eL,a12,eH,eM,eC,eW,eX,eY,fc,a20,a21⟩:=bJ (np.out.keep iw.out (fun h=>h)) fX.out;rw[uH.out]at a1;have rf:=HW.out;rw[rf]at a0;clear rf
 clear a1 a2 a3 a4 a5 a6 a7 a8 a9 eK eL a12 eH eM eC eW eX eY fc a20;have p1:u1.cell? ⟨B,12,none⟩=some (.int .i64 x.now):=by
  have j2:=(HH.out.bd np.out).cR;simp only[World.cell?,j2];rfl
 have ql:=O (show∀n,Fr ay w2 (u1.drewN n)from fun n=>Fr.drewN n np.out);by_cases hn:o.n<0
 ·have hd:decide (o.n<0)=true:=decide_eq_true hn;have HR:=O (C0.out.trans (if_pos (Or.inl hn)));go_wp2_with fail
  go_quiet (fail);have jZ:=ql.out nq;generalize u1.drewN nq=u2 at jZ ⊢;have j5:=O (jZ.keep mX.out (fun h=>h));have UZ:=O (show aC base w B pv x u2 from aC.after dk.out (aC.same HH.out jZ))
  go_wp2_with (first|((with_reducible refine ag ⟨none,.store 39 _ _,_,_,_,_⟩ ?_);go_must(refine wpList_store_row rfl 39 (.tmp 4) (.tmp 103) rfl (w.heap.size+1) #[.int .i64 7,.string ⟨#[]⟩,.int .i64 0] rfl rfl _ aM j5.out (az _ rfl) rfl (by simp[Value.oneCell']) ?_))|fail)
  refine bodyPost_ret (results_cell_row (by rfl) _ _ (w.heap.size+1) 39 #[.int .i64 7,.string ⟨#[]⟩,.int .i64 0] (0,0) _ rfl (setRow_heap _ (w.heap.size+1) _ _ _ _ j5.out) Tryz.underlying39 rfl (az _ rfl)) rfl ?_;unfold eG;rw[HR.out];exact⟨rfl,aC.row UZ.out j6.out j8.out (Nat.le_succ _) j5.out aD (by decide) _⟩
 ·have hd:decide (o.n<0)=false:=decide_eq_false hn;by_cases hm:1099511627776-x.now<o.n
  ·have qE:decide (1099511627776-x.now<o.n)=true:=decide_eq_true hm;have HR:=O (C0.out.trans (if_pos (Or.inr hm)));go_wp2_with fail
   go_quiet (fail);have jZ:=ql.out nq;generalize u1.drewN nq=u2 at jZ ⊢;have j5:=O (jZ.keep mX.out (fun h=>h));have UZ:=O (show aC base w B pv x u2 from aC.after dk.out (aC.same HH.out jZ))
   go_wp2_with (first|((with_reducible refine ag ⟨none,.store 39 _ _,_,_,_,_⟩ ?_);go_must(refine wpList_store_row rfl 39 (.tmp 4) (.tmp 103) rfl (w.heap.size+1) #[.int .i64 7,.string ⟨#[]⟩,.int .i64 0] rfl rfl _ aM j5.out (az _ rfl) rfl (by simp[Value.oneCell']) ?_))|fail)
   refine bodyPost_ret (results_cell_row (by rfl) _ _ (w.heap.size+1) 39 #[.int .i64 7,.string ⟨#[]⟩,.int .i64 0] (0,0) _ rfl (setRow_heap _ (w.heap.size+1) _ _ _ _ j5.out) Tryz.underlying39 rfl (az _ rfl)) rfl ?_;unfold eG;rw[HR.out];exact⟨rfl,aC.row UZ.out j6.out j8.out (Nat.le_succ _) j5.out aD (by decide) _⟩
  ·have qE:decide (1099511627776-x.now<o.n)=false:=decide_eq_false hm;have HR:=O (C0.out.trans (if_neg (by omega)));go_wp2_with fail
   go_quiet (fail);have jZ:=ql.out nq;generalize u1.drewN nq=u2 at jZ ⊢;have j5:=O (jZ.keep mX.out (fun h=>h));have UZ:=O (show aC base w B pv x u2 from aC.after dk.out (aC.same HH.out jZ));go_wp2_with fail
   have q1:u2.cell? ⟨B,12,none⟩=some (.int .i64 x.now):=by
    have j2:=(HH.out.bd jZ).cR;simp only[World.cell?,j2];rfl
   have q2:u2.frozen? ⟨B,12,none⟩=false:=by
    have j2:=(HH.out.bd jZ).cR;simp[World.frozen?,j2]
   obtain⟨a0,a1,a2,a3,a4,a5,a6,a7,a8,a9,eK,eL,a12,eH,eM,eC,eW,eX,eY,fc,a20,a21⟩:=bJ (jZ.keep iw.out (fun h=>h)) fX.out;clear a0 a1 a2 a3 a4 a5 a6 a7 a8 a9 eK eL a12 eH eM eC eW eX eY fc a20;have g1: -9223372036854775808<=x.now+o.n:=by omega
   have g2:x.now+o.n<=9223372036854775807:=by omega
   go_region
   obtain⟨zo,Kp⟩:=(HH.out.bd jZ).aa7 (x.now+o.n);have hWP:aC base u2 B pv {x with now:=x.now+o.n} (u2.setCell ⟨B,12,none⟩ (.int .i64 (x.now+o.n))):=⟨pv,zo,Kp.mono (fun k _ e=>Or.inl e),fun k hk=>Or.inl hk⟩;have HP:=O (show aC base w B pv {x with now:=x.now+o.n} _ from aC.after dk.out (aC.after jZ (hWP.then (Fr.drew (Fr.refl ay _)))))
   have Jc:=O (show((u2.setCell ⟨B,12,none⟩ (.int .i64 (x.now+o.n))).drew).heap[w.heap.size+1]?=_ from Kp.keep j5.out (fun e=>by have e':w.heap.size+1=B:=e;have:=j8.out;omega));clear zo Kp hWP q1 q2 a21
   go_wp2_with (first|((with_reducible refine ag ⟨none,.store 39 _ _,_,_,_,_⟩ ?_);go_must(refine wpList_store_row rfl 39 (.tmp 4) (.tmp 113) rfl (w.heap.size+1) #[.int .i64 1,.string ⟨#[]⟩,.int .i64 0] rfl rfl _ aM Jc.out (az _ rfl) rfl (by simp[Value.oneCell']) ?_))|fail)
   refine bodyPost_ret (results_cell_row (by rfl) _ _ (w.heap.size+1) 39 #[.int .i64 1,.string ⟨#[]⟩,.int .i64 0] (0,0) _ rfl (setRow_heap _ (w.heap.size+1) _ _ _ _ Jc.out) Tryz.underlying39 rfl (az _ rfl)) rfl ?_;unfold eG;rw[HR.out];exact⟨rfl,aC.row HP.out j6.out j8.out (Nat.le_succ _) Jc.out aD (by decide) _⟩
theorem VH(base:Nat)(w:World)(B:Nat)(pv:Nat->bB)(x:bW)(o:ei)(hs:List dW)(h:aR base w B pv x)(hf:bg w o hs)(hi:fW x)(a:World)(mq:fN a)(mo:a.heap.size<=base)(mr:Fr ay a w)(hr:(o.bF hs).right=true)(hw:o.what=8\/o.what=9) :
  Calls Tryz.prog 17 #[.pointer (some ⟨B,0,none⟩),.agg o.cells.toArray] w (eG base w B pv (cV x (o.bF hs))):=by
 have qR:B<w.heap.size:=h.lt;have ku:=h.low;obtain⟨ah,ch,df⟩:=hf.eJ;obtain⟨w2,bK⟩:∃w2,w2=(w.alloc (.cells o.cells.toArray 33)).alloc (.cells aM 39):=⟨_,rfl⟩;have bq:Fr ay w w2:=by rw[bK];exact((Fr.refl ay w).alloc _).alloc _
 have k1:w2.heap[w.heap.size]?=some (.cells o.cells.toArray 33 (0,0)):=by rw[bK];exact((Fr.refl ay _).alloc _).keep (af _ _) (fun h=>h)
 have k2:w2.heap[w.heap.size+1]?=some (.cells aM 39 (0,0)):=by
  have h:=af (w.alloc (.cells o.cells.toArray 33)) (.cells aM 39);rw[World.size_alloc]at h;rw[bK];exact h
 have oJ:=O (gF o hs w2 (hf.bd bq));have HH:=O (h.bd bq);have HF:=O (hf.bd bq);have fX:=O df;have HI:=O hi;have dk:=O bq;have iw:=O k1;have mX:=O k2;have j6:=O (show base<=w.heap.size by omega);have q_:=O ku;have j8:=O qR;have L':=O mq;have Hl:=O (mr.trans bq);have Nb:=O mo;rw[bK]at k1;rw[aZ df]at bK oJ k1 ⊢;unfold aM at bK k1;have ka:=O bK;have uw:=O k1;clear bK df bq k1 k2 h hf hi mq mo mr
 obtain⟨i,px,wD⟩:∃i:Nat,o.ab.part=(i:Int)/\i<4:=by
  obtain⟨h0,h1⟩:=fl hr;have XB:0<=o.ab.part:=h0;have JG:o.ab.part<4:=h1;exact⟨o.ab.part.toNat,by omega,by omega⟩
 have Nr:(i:Int)<4:=by omega
 have qD:¬(i:Int)<0:=by omega
 have Oh:¬(4:Int)<=(i:Int):=by omega
 have Lb:(0:Int)<=(i:Int):=by omega
 have nR:=O wD;have uH:=O px;obtain⟨r,wT⟩:∃r,r=kN (x.part i) (o.bF hs):=⟨_,rfl⟩;have HR:=O (show cV x (o.bF hs)=(x.set i r.1,r.2)by rw[kO hr px (by show o.what≠10;omega),wT,P6 (show(o.bF hs).what=8\/(o.bF hs).what=9 from hw)]);rw[hr]at oJ
 have HM:=O (show∀U,Fr ay w2 U->Calls Tryz.prog 60 #[.pointer (some ⟨B,i*3,none⟩),.agg o.cells.toArray] U (bL base U B (fo pv x.now) (i*3) (pv i) r)from fun U hU=>by
  have h:=Qk base U B (i*3) (fo pv x.now) (pv i) (x.part i) o hs ((HH.out.bd hU).part i nR.out) ((HH.out.bd hU).partAt nR.out) q_.out (HF.out.bd hU) (HI.out.ok.part i);rw[<-wT]at h;exact h)
 rw[aZ fX.out]at HM;have HW:=O hw;clear hr hw wT wD px;go_enter Tryz.func17,Tryz.ntmps17;go_wp2_with (first|((with_reducible refine ag ⟨some 8,_,_,_,_,_⟩ ?_);go_must(refine wpList_load_row rfl 33 (.tmp 3) rfl w.heap.size rfl _ _ (0,0) _ uw.out Tryz.underlying33 rfl (by kernel_rfl) ?_))|fail)
 rw[<-ka.out];refine oJ.out.mono ?_;rintro e u⟨rfl,hu⟩;obtain⟨a0,a1,a2,a3,a4,a5,a6,a7,a8,a9,eK,eL,a12,eH,eM,eC,eW,eX,eY,fc,a20,a21⟩:=bJ (hu.keep iw.out (fun h=>h)) fX.out;rw[uH.out]at a1;clear a0 a2 a3 a4 a5 a6 a7 a8 a9 eK eL a12 eH eM eC eW eX eY fc a20 a21;have kP:=O (show∀n,Fr ay w2 (u.drewN n)from fun n=>Fr.drewN n hu);clear hu uw;go_wp2_with fail
 go_quiet (fail);clear a1;have ie:=kP.out nq;generalize u.drewN nq=u1 at ie ⊢;have np:=O ie;clear ie kP;have zh:=O (np.out.keep iw.out (fun h=>h));rw[aZ fX.out]at zh;obtain⟨a0,a1,a2,a3,a4,a5,a6,a7,a8,a9,eK,eL,a12,eH,eM,eC,eW,eX,eY,fc,a20,a21⟩:=bJ (np.out.keep iw.out (fun h=>h)) fX.out;rw[uH.out]at a1;have rf:=HW.out
 have hne:(o.what==1)=false/\(o.what==2)=false/\(o.what==3)=false/\(o.what==4)=false/\(o.what==5)=false/\(o.what==6)=false/\(o.what==7)=false/\(o.what==10)=false:=by
  refine⟨?_,?_,?_,?_,?_,?_,?_,?_⟩<;>(rw[beq_eq_false_iff_ne];omega)
 obtain⟨n1,n2,n3,n4,n5,n6,n7,n10⟩:=hne;have m1:¬o.what=1:=by omega
 have m2:¬o.what=2:=by omega
 have m3:¬o.what=3:=by omega
 have m4:¬o.what=4:=by omega
 have m5:¬o.what=5:=by omega
 have m6:¬o.what=6:=by omega
 have m7:¬o.what=7:=by omega
 have m10:¬o.what=10:=by omega
 clear rf;clear a1 a2 a3 a4 a5 a6 a7 a8 a9 eK eL a12 eH eM eC eW eX eY fc a20 a21;go_wp2_with (first|((with_reducible refine ag ⟨some 115,_,_,_,_,_⟩ ?_);go_must(refine wpList_load_row rfl 33 (.tmp 3) rfl w.heap.size rfl _ _ (0,0) _ zh.out Tryz.underlying33 rfl (by kernel_rfl) ?_))|fail)
 have nr:=np.out;refine(HM.out _ nr).mono ?_;rintro e u5⟨rfl,hp⟩;unfold nk.val;have E7:=nr.keep mX.out (fun h=>h);have j5:=O (ji (HH.out.bd nr) nR.out hp E7 aD (by omega));have HP:=O (show aC base w B pv (x.set i r.1) u5 from aC.after dk.out (aC.after nr (aR.step (HH.out.bd nr) nR.out hp)));clear hp E7 nr HM
 go_wp2_with (first|((with_reducible refine ag ⟨none,.store 39 _ _,_,_,_,_⟩ ?_);go_must(refine wpList_store_row rfl 39 (.tmp 4) (.tmp 116) rfl (w.heap.size+1) #[.int .i64 r.2.what,.string r.2.head,.int .i64 r.2.cert] rfl rfl _ aM j5.out (az _ rfl) rfl (by simp[Value.oneCell']) ?_))|fail)
 refine bodyPost_ret (results_cell_row (by rfl) _ _ (w.heap.size+1) 39 #[.int .i64 r.2.what,.string r.2.head,.int .i64 r.2.cert] (0,0) _ rfl (setRow_heap _ (w.heap.size+1) _ _ _ _ j5.out) Tryz.underlying39 rfl (az _ rfl)) rfl ?_;unfold eG;rw[HR.out];exact⟨rfl,aC.row HP.out j6.out j8.out (Nat.le_succ _) j5.out aD (by decide) _⟩
theorem yY(base:Nat)(w:World)(B:Nat)(pv:Nat->bB)(x:bW)(o:ei)(hs:List dW)(h:aR base w B pv x)(hf:bg w o hs)(hi:fW x)(a:World)(mq:fN a)(mo:a.heap.size<=base)(mr:Fr ay a w) :
  Calls Tryz.prog 17 #[.pointer (some ⟨B,0,none⟩),.agg o.cells.toArray] w (eG base w B pv (cV x (o.bF hs))):=by
 cases hr:(o.bF hs).right
 ·exact aaJ base w B pv x o hs h hf hi a mq mo mr hr
 ·obtain⟨h1,h2⟩:=Hm hr;have JG:1<=o.what:=h1;have h2':o.what<=10:=h2;have hq:o.what=1\/o.what=2\/o.what=3\/o.what=4\/o.what=5\/o.what=6\/o.what=7\/(o.what=8\/o.what=9)\/o.what=10:=by omega
  rcases hq with hq|hq|hq|hq|hq|hq|hq|hq|hq
  ·exact Mf base w B pv x o hs h hf hi a mq mo mr hr hq
  ·exact Hs base w B pv x o hs h hf hi a mq mo mr hr hq
  ·exact Fo base w B pv x o hs h hf hi a mq mo mr hr hq
  ·exact Qe base w B pv x o hs h hf hi a mq mo mr hr hq
  ·exact Ht base w B pv x o hs h hf hi a mq mo mr hr hq
  ·exact VE base w B pv x o hs h hf hi a mq mo mr hr hq
  ·exact Mq base w B pv x o hs h hf hi a mq mo mr hr hq
  ·exact VH base w B pv x o hs h hf hi a mq mo mr hr hq
  ·exact VG base w B pv x o hs h hf hi a mq mo mr hr hq
def opsL(os:List (ei×List dW)):List ib:=os.map fun o=>o.1.bF o.2
theorem H'{os:List (ei×List dW)}(h:jy os=true):os.length<=30/\∀o∈os,fU o=false:=by
 unfold jy at h;simp only[Bool.and_eq_true,decide_eq_true_eq,Bool.not_eq_true',List.any_eq_false,Bool.not_eq_true]at h;exact h
theorem jw.fr{w w':World}{o:ei}{hs:List dW}(h:jw w o hs)(hf:Fr ay w w'):jw w' o hs:={h with ab:={h.ab with cU:=aN.bu h.ab.cU hf}}
theorem bg.small{w:World}{o:ei}{hs:List dW}(h:bg w o hs){x:bW}(hi:fW x):fW (cV x (o.bF hs)).1 :=
 hi.cV _ h.user h.pass (by show o.ab.path.size<=5000;have:=h.path;omega)
theorem Mw{os:List (ei×List dW)}{k:Nat}{o:ei×List dW}(h:os[k]?=some o):nM (opsL (os.take (k+1)))=(cV (nM (opsL (os.take k))) (o.1.bF o.2)).1:=by
 rw[bz h];unfold opsL;rw[List.map_append,List.map_cons,List.map_nil,G0]
def abd(base:Nat)(w:World)(B:Nat)(os:List (ei×List dW))(i:Value)(wr:World):Prop :=
 ∃(k:Nat) (pv:Nat->bB),k<=os.length/\i=.int .i64 k/\aR base wr B pv (nM (opsL (os.take k)))/\fW (nM (opsL (os.take k)))/\Fr ay w wr/\∀j,jV B pv j->w.heap.size<=j
theorem oM(base:Nat)(v:Value)(os:List (ei×List dW))(w:World)(h:gM w v os)(hs:jy os=true)(a:World)(mq:fN a)(mo:a.heap.size<=base)(mr:Fr ay a w)(hbw:base<=w.heap.size) :
  Calls Tryz.prog 16 #[v] w fun e w'=>∃B pv,e=.returned (.pointer (some ⟨B,0,none⟩))/\aR base w' B pv (nM (opsL os))/\fW (nM (opsL os))/\Fr ay w w'/\∀j,jV B pv j->w.heap.size<=j:=by
 obtain⟨hv,hl,ha⟩:=h;obtain⟨h30,kz⟩:=H' hs;obtain⟨av,cv,cA⟩:=hv.form;rw[List.length_map]at cA;subst cA;have HV:=O hv;have HA:=O ha;have HSM:=O kz;have HT:=O mq;have Nb:=O mo;have Hl:=O mr;clear hv ha kz mq hs mr;go_enter Tryz.func16,Tryz.ntmps16;go_wp2_with fail
 refine(J5 w).mono ?_;rintro e w1⟨B,pv,rfl,hw,hf⟩;have HW:=O (hw base hbw);have HWL:=O (show∀j,jV B pv j->w.heap.size<=j from fun j hj=>(hw w.heap.size (Nat.le_refl _)).iU hj);have jF:=O hf;clear hw hf;go_wp2_with fail
 go_loopw[4] (abd base w B os) (fun i _=>os.length-(intOf i).toNat)
 case atStart=>exact⟨0,pv,Nat.zero_le _,rfl,by rw[List.take_zero];exact HW.out,by rw[List.take_zero];exact fW.new,jF.out,HWL.out⟩
 case round =>
  obtain⟨k,zu,hk,rfl,wQ,rk,aW,AF⟩:=hrel;have HLW:=O AF;clear AF;by_cases cG:k<os.length
  ·have lf:(k:Int)<(os.length:Int):=by omega
   rcases(HV.out.bu aW).2 with ⟨_,_,_,e,_⟩|⟨bk,of,c,hf,h1,h2,h3,h4⟩
   ·have D':=congrArg List.length e;rw[List.length_map]at D';rw[List.length_nil]at D';omega
   ·rw[List.length_map]at hf;cases hf;rw[List.length_map]at h1;unfold maxLen at h2;obtain⟨o,bC⟩:∃o,os[k]?=some o:=⟨_,List.getElem?_eq_getElem cG⟩;have hcell:=h4 k o.1.cells (by rw[List.getElem?_map,bC];rfl);have ed:=List.mem_of_getElem? bC;have lZ:=bg.Mt ((HA.out o ed).fr aW) (HSM.out o ed);have HDO:=O (yY base wr B zu _ o.1 o.2 wQ lZ rk a HT.out Nb.out (Hl.out.trans aW));have C4:=O (bg.small lZ rk)
    have HPT:=O (Mw bC);have Nd:=O wQ;have py:=O aW;have gD:o.1.cells.length=22:=rfl;obtain⟨x,hx⟩:∃x,x=o.1.cells:=⟨_,rfl⟩;rw[<-hx]at hcell gD HDO;clear h4 wQ rk aW lZ ed bC hx;go_wp2_with (first|((with_reducible refine ag ⟨some 16,_,_,_,_,_⟩ ?_);go_must(refine wpList_load_mid rfl 33 (.tmp 15) rfl bk (of+k*22) rfl x _ hcell Tryz.underlying33 rfl (H9 gD) ?_))|fail)
    refine HDO.out.mono ?_;rintro e w3⟨rfl,hp⟩;obtain⟨pv3,h31,Zx,h33⟩:=hp;have aqg:=O (py.out.step Zx (fun j hj hk=>by have:=HLW.out j hk;omega));have J1:=O (show∀j,jV B pv3 j->w.heap.size<=j from fun j hj=>by
     rcases h33 j hj with h|h
     ·exact HLW.out j h
     ·exact Nat.le_trans py.out.size h)
    have H31:=O h31;clear h31 Zx h33;unfold nk.val;go_wp2_with fail
    go_roundw
    case rel=>exact⟨k+1,pv3,by omega,by go_num,by rw[HPT.out];exact H31.out,by rw[HPT.out];exact C4.out,aqg.out,J1.out⟩
    case measure=>simp[intOf];omega
  ·have hke:k=os.length:=by omega
   subst hke;rw[List.take_length]at wQ rk;go_wp2_with fail
   go_ret;exact⟨B,zu,rfl,wQ,rk,aW,HLW.out⟩
end Go.Proofs.YtjdmjbdkdmbaiaaGreatDoor
