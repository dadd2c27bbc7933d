/- ChooseP, GoneP. -/
import Derived.Test.YtjdmjbdkdmbaiaaGreatDoorPk40
set_option maxRecDepth 100000
set_option maxHeartbeats 16000000
set_option linter.unusedSimpArgs false
namespace Go.Proofs.YtjdmjbdkdmbaiaaGreatDoor
open Go.RowKit
theorem Mp:(Tryz.prog.info? 109).map (fun i=>(i.zero,i.size,i.bytes))=some (some (.agg Th),4,40):=by kernel_rfl
theorem Hw{base:Nat}{w4:World}{l:List (cO×Int)}{c:cO×Int}{gg cap:Nat}(h:w4.ownsRow base 109 4 (.slice (some ⟨gg,0,none⟩) (l.length+1) cap) (l.length+1) ((l.map ic).flatten++ic c)) :
  OwnRows base 109 4 w4 (.slice (some ⟨gg,0,none⟩) (l.length+1) cap) ((l++[c]).map ic):=by
 refine⟨fun x hx=>?_,?_⟩
 ·obtain⟨q,_,rfl⟩:=List.mem_map.1 hx;exact⟨rfl,Bi q⟩
 ·rw[List.map_append,List.flatten_append,List.length_append,List.length_map];simpa using h
theorem Hx(base:Nat)(w:World)(B off:Nat)(cs:List Value)(v:bB)(p:bH)(o:ei)(hs:List dW)(h:cC base w v p)(ha:cD w B cs off v)(ku:base<=B)(hf:bg w o hs)(hk:jh p) :
  Calls Tryz.prog 59 #[.pointer (some ⟨B,off,none⟩),.agg o.cells.toArray] w (bL base w B cs off v (jU p (o.bF hs))):=by
 have qR:B<w.heap.size:=aj ha.cR;have Bd:¬v.gL B:=h.bX ha.cR (by decide);obtain⟨ah,ch,df⟩:=hf.eJ;obtain⟨w2,bK⟩:∃w2,w2=(w.alloc (.cells o.cells.toArray 33)).alloc (.cells aM 39):=⟨_,rfl⟩;have bq:Fr ay w w2:=by rw[bK];exact((Fr.refl ay w).alloc _).alloc _
 have k1:w2.heap[w.heap.size]?=some (.cells o.cells.toArray 33 (0,0)):=by rw[bK];exact((Fr.refl ay _).alloc _).keep (af _ _) (fun h=>h)
 have k2:w2.heap[w.heap.size+1]?=some (.cells aM 39 (0,0)):=by
  have h:=af (w.alloc (.cells o.cells.toArray 33)) (.cells aM 39);rw[World.size_alloc]at h;rw[bK];exact h
 have qV:w2.heap.size=w.heap.size+2:=by rw[bK];simp
 have PY:=O (show∀U,Fr ay w2 U->U.heap[w.heap.size]?=some (.cells o.cells.toArray 33 (0,0))from fun U hU=>hU.keep k1 (fun h=>h));have xk:=O Bd;have HH:=O h;have HA:=O ha;have HF:=O hf;have fX:=O df;have HK:=O hk;have dk:=O bq;have iw:=O k1;have mX:=O k2;have j6:=O (show base<=w.heap.size by omega);have q_:=O ku;have j8:=O qR;have LQ:=O bK
 obtain⟨a0,a1,a2,a3,a4,a5,a6,a7,a8,a9,eK,eL,a12,eH,eM,eC,eW,eX,eY,fc,a20,a21⟩:=bJ k1 df;rw[bK]at a0 a1 a2 a3 a4 a5 a6 a7 a8 a9 eK eL a12 eH eM eC eW eX eY fc a20 a21;rw[aZ df]at bK a0 a1 a2 a3 a4 a5 a6 a7 a8 a9 eK eL a12 eH eM eC eW eX eY fc a20 a21 ⊢;unfold aM at bK a0 a1 a2 a3 a4 a5 a6 a7 a8 a9 eK eL a12 eH eM eC eW eX eY fc a20 a21;have ka:=O bK;clear bK df bq k1 k2 h ha hf Bd hk
 go_enter Tryz.func59,Tryz.ntmps59;have Ma:=HK.out.xc;by_cases aiP:o.cert<0
 ·have HR:=O (show jU p (o.bF hs)=(p,rep 7)by
   unfold jU;rw[if_pos (show(o.bF hs).cert<0 from aiP)])
  have HP:=O (aA.same HH.out HA.out dk.out);have mE:=ka.out;subst mE;go_wp2_with (first|((with_reducible refine ag ⟨none,.store 39 _ _,_,_,_,_⟩ ?_);go_must(refine wpList_store_row rfl 39 (.tmp 4) (.tmp 9) rfl (w.heap.size+1) #[.int .i64 7,.string ⟨#[]⟩,.int .i64 0] rfl rfl _ aM mX.out (az _ rfl) rfl (by simp[Value.oneCell']) ?_))|fail)
  refine bodyPost_ret (results_cell_row (by rfl) _ _ (w.heap.size+1) 39 #[.int .i64 7,.string ⟨#[]⟩,.int .i64 0] (0,0) _ rfl (setRow_heap _ (w.heap.size+1) _ _ _ _ mX.out) Tryz.underlying39 rfl (az _ rfl)) rfl ?_;unfold bL;rw[HR.out];exact⟨rfl,aA.row HP.out j6.out j8.out (Nat.le_succ _) mX.out bN (by decide) _⟩
 ·have HR:=O (show jU p (o.bF hs)=({p with dh:=rC p.dh o.ab.o o.cert},rep 1)by
   unfold jU;rw[if_neg (show¬(o.bF hs).cert<0 from aiP)];rfl)
  have DR:=O (Fp base w2 B off cs v p o.ab.o (HH.out.bd dk.out) (HA.out.bd dk.out) q_.out);unfold cO.cells at DR;have hx:=ka;have mE:=ka.out;go_wp2_with fail
  rw[<-mE];refine DR.out.mono ?_;rintro e u3⟨rfl,Y6⟩;clear DR a0 a1 a2 a3 a4 a5 a6 a7 a8 a9 eK eL a12 eH eM eC eW eX eY fc a20 a21 hx mE;obtain⟨v3,i3,f3,XP,aiQ⟩:=Y6;have aa3:=cD.after (HA.out.bd dk.out) aiQ;have o3:=bM (HH.out.bd dk.out) f3 (show w2.heap[w.heap.size]?=_ from iw.out) aO (by omega);have r3:=bM (HH.out.bd dk.out) f3 (show w2.heap[w.heap.size+1]?=_ from mX.out) aD (by omega)
  obtain⟨a0,a1,a2,a3,a4,a5,a6,a7,a8,a9,eK,eL,a12,eH,eM,eC,eW,eX,eY,fc,a20,a21⟩:=bJ o3 fX.out;obtain⟨fs,fM⟩:∃fs,fs=Ey o.ab.o p.dh:=⟨_,rfl⟩;have yr:fs.length<=8:=by rw[fM];unfold Ey;exact Nat.le_trans (List.length_filter_le _ _) Ma.2.2.2
  rw[<-fM]at i3;obtain⟨av,cv,hcv⟩:=i3.dh.form;rw[List.length_map]at hcv;have d2:=aa3.ir;have e2:=aa3.free (off+2);rw[hcv]at d2;have a_:u3.ownsRow base 109 4 (.slice av fs.length cv) fs.length (fs.map ic).flatten:=by
   have h:=i3.dh.2;rw[hcv,List.length_map]at h;exact h
  have hB3:¬own (.slice av fs.length cv) B:=fun hb=>i3.bX aa3.cR (by decide) (Or.inr (Or.inr (by rw[hcv];exact hb)));have aiR:B<u3.heap.size:=aj aa3.cR;have axY:base<=u3.heap.size:=by have:=q_.out;omega
  obtain⟨i0,qD,oZ,iy,gU⟩:=info_parts Mp;have qY:=O (Bi (o.ab.o,o.cert));have I3:=O i3;have A3:=O aa3;have F3:=O f3;have FT3:=O XP;have O3:=O o3;have R3:=O r3;have wS:=O hcv;have WZ:=O fM;clear i3 aa3 f3 XP o3 r3 aiQ hcv fM;go_wp2_with fail
  go_region_law ((with_reducible refine jM ⟨some 29,_,_,_,_,_⟩ ?_)
                 refine step_append_lies _ (by rfl) _ _ _ (by rfl) base 109 i0 _ 4 40 Tryz.underlying69 qD oZ iy gU rfl (by omega) (.slice av fs.length cv) fs.length _ (by rfl) (by repeat(first|exact a_|apply World.ownsRow.alloc|apply World.ownsRow.drew)) ⟨u3.heap.size,0,none⟩ 1 1 (ic (o.ab.o,o.cert)) (by rfl) (by rfl) (jo u3 (ic (o.ab.o,o.cert)) _) qY.out (by omega) (by unfold maxLen;omega) (by omega) (by simp;omega) (u3.heap.size+1) (by simp) ?_
                 intro gg cap w4 cZ gQ bC UF
                 have fu:Fr (own (.slice av fs.length cv)) u3 w4:=Fr.grown (by repeat(first|exact Fr.refl _ _|apply Fr.drew|apply Fr.alloc)) gQ (fun _ hk _=>hk)
                 have k4:w4.cell? ⟨B,off+2,none⟩=some (.slice av fs.length cv):=(fu.cell (p:=⟨B,off+2,none⟩) aiR hB3).trans d2
                 have e4:w4.frozen? ⟨B,off+2,none⟩=false:=(fu.frozen (p:=⟨B,off+2,none⟩) aiR hB3).trans e2)
  all_goals
   have hP:=aA.dh I3.out A3.out q_.out (Hw cZ) (by rw[wS.out];exact fu) (fun k hk=>by
    have e:gg=k:=by simpa[own,Value.ownBlock]using hk
    subst e;rcases bC with bC|bC
    ·exact Or.inl (by rw[wS.out];exact bC)
    ·exact Or.inr (by omega))
   clear cZ gQ fu k4 e4 bC UF a_ a0 a1 a2 a3 a4 a5 a6 a7 a8 a9 eK eL a12 eH eM eC eW eX eY fc a20 a21 d2 e2;generalize w4.setCell ⟨B,off+2,none⟩ (.slice (some ⟨gg,0,none⟩) (fs.length+1) cap)=w5 at *
   obtain⟨v5,i5,f5,Fq,Qi⟩:=hP;have aa5:=cD.after A3.out Qi;have r5:=bM I3.out f5 R3.out aD (by omega);obtain⟨av5,cv5,VF⟩:=i5.dh.form;have u0:(List.map ic (fs++[(o.ab.o,o.cert)])).length=fs.length+1:=by simp
   rw[u0]at VF;have d5:=aa5.ir;have e5:=aa5.free (off+2);rw[VF]at d5;have I5:=O i5;have F5:=O f5;have FT5:=O Fq;have AA5:=O aa5;have R5:=O r5;have Qj:=O VF;have M4:=O u0;clear i5 f5 Fq aa5 r5 VF u0 Qi;by_cases h8:8<=fs.length
   ·have Xa:(8:Int)<(fs.length:Int)+1:=by omega
    obtain⟨n,hn⟩:∃n:Nat,fs.length+1=n+8:=⟨fs.length+1-8,by omega⟩;obtain⟨g5,rfl⟩:∃g5,av5=some ⟨g5,0,none⟩:=by
     rcases I5.out.dh.2.2 with ⟨hv,hq⟩|⟨g,cap,cur,hv,_⟩
     ·rw[M4.out]at hq;omega
     ·rw[Qj.out]at hv;injection hv with h1;exact⟨g,h1⟩
    have ux:=I5.out.dh;rw[Qj.out, <-M4.out]at ux;have ld:=Mn base g5 cv5 0 n (List.map ic (fs++[(o.ab.o,o.cert)])) w5 ux (by omega) (by rw[M4.out];omega);rw[M4.out,show 0+(fs.length+1-n)=8 by omega,List.take_zero,List.nil_append, <-List.map_drop]at ld;have O7:=O ld;have HN:=O hn;have hce:=O (show rC p.dh o.ab.o o.cert=(fs++[(o.ab.o,o.cert)]).drop n by
     unfold rC;rw[<-WZ.out,List.length_append,show fs.length+[(o.ab.o,o.cert)].length-8=n by simp;omega])
    have mA:(0:Int)<(fs.length:Int)+1-8:=by omega
    clear ld ux hn;go_wp2_with fail
    rw[show((fs.length:Int)+1-8)=(n:Int)from by have:=HN.out;omega];refine O7.out.mono ?_;rintro e w7⟨rfl,T6,jC⟩;clear O7 d5 e5;have E5:Fr (own v5.cv) w5 w7:=jC.mono (fun k _ hk=>by rw[Qj.out,show k=g5 from hk];rfl);have hP7:=aA.dh I5.out AA5.out q_.out T6 E5 (fun k hk=>Or.inl (by rw[Qj.out];exact hk));have hB5:¬own v5.cv B:=fun hb=>I5.out.bX AA5.out.cR (by decide) (Or.inr (Or.inr hb))
    have ap_:=E5.keep AA5.out.cR hB5;have a7:cD w7 B _ off v5:=AA5.out.fr E5 hB5;have d7:=a7.ir;have e7:=a7.free (off+2);rw[Qj.out]at d7;have r7:=O (bM I5.out (by obtain⟨_,_,h,_⟩:=hP7;exact h) R5.out aD (by omega));have HP:=O (show aA base w2 B cs off v {p with dh:=rC p.dh o.ab.o o.cert} _ from by
     rw[hce.out];exact aA.seq F3.out FT3.out (aA.seq F5.out FT5.out hP7))
    clear hP7 T6 jC E5 ap_ a7;go_wp2_with (first|((with_reducible refine ag ⟨none,.store 39 _ _,_,_,_,_⟩ ?_);go_must(refine wpList_store_row rfl 39 (.tmp 4) (.tmp 49) rfl (w.heap.size+1) #[.int .i64 1,.string ⟨#[]⟩,.int .i64 0] rfl rfl _ aM r7.out (az _ rfl) rfl (by simp[Value.oneCell']) ?_))|fail)
    refine bodyPost_ret (results_cell_row (by rfl) _ _ (w.heap.size+1) 39 #[.int .i64 1,.string ⟨#[]⟩,.int .i64 0] (0,0) _ rfl (setRow_heap _ (w.heap.size+1) _ _ _ _ r7.out) Tryz.underlying39 rfl (az _ rfl)) rfl ?_;unfold bL;rw[HR.out];exact⟨rfl,aA.row (HP.out.after dk.out) j6.out j8.out (Nat.le_succ _) r7.out bN (by decide) _⟩
   ·have Xa:¬(8:Int)<(fs.length:Int)+1:=by omega
    have auL:¬(0:Int)<(fs.length:Int)+1-8:=by omega
    have hce:=O (show rC p.dh o.ab.o o.cert=fs++[(o.ab.o,o.cert)]by
     unfold rC;rw[<-WZ.out,List.length_append,show fs.length+[(o.ab.o,o.cert)].length-8=0 by simp;omega,List.drop_zero])
    have HP:=O (show aA base w2 B cs off v {p with dh:=rC p.dh o.ab.o o.cert} w5 from by
     rw[hce.out];exact aA.seq F3.out FT3.out ⟨v5,I5.out,F5.out,FT5.out,AA5.out.cR⟩)
    go_wp2_with (first|((with_reducible refine ag ⟨none,.store 39 _ _,_,_,_,_⟩ ?_);go_must(refine wpList_store_row rfl 39 (.tmp 4) (.tmp 49) rfl (w.heap.size+1) #[.int .i64 1,.string ⟨#[]⟩,.int .i64 0] rfl rfl _ aM R5.out (az _ rfl) rfl (by simp[Value.oneCell']) ?_))|fail)
    refine bodyPost_ret (results_cell_row (by rfl) _ _ (w.heap.size+1) 39 #[.int .i64 1,.string ⟨#[]⟩,.int .i64 0] (0,0) _ rfl (setRow_heap _ (w.heap.size+1) _ _ _ _ R5.out) Tryz.underlying39 rfl (az _ rfl)) rfl ?_;unfold bL;rw[HR.out];exact⟨rfl,aA.row (HP.out.after dk.out) j6.out j8.out (Nat.le_succ _) R5.out bN (by decide) _⟩
theorem Qk(base:Nat)(w:World)(B off:Nat)(cs:List Value)(v:bB)(p:bH)(o:ei)(hs:List dW)(h:cC base w v p)(ha:cD w B cs off v)(ku:base<=B)(hf:bg w o hs)(hk:jh p) :
  Calls Tryz.prog 60 #[.pointer (some ⟨B,off,none⟩),.agg o.cells.toArray] w (bL base w B cs off v (kN p (o.bF hs))):=by
 have qR:B<w.heap.size:=aj ha.cR;have Bd:¬v.gL B:=h.bX ha.cR (by decide);obtain⟨ah,ch,df⟩:=hf.eJ;obtain⟨w2,bK⟩:∃w2,w2=(w.alloc (.cells o.cells.toArray 33)).alloc (.cells aM 39):=⟨_,rfl⟩;have bq:Fr ay w w2:=by rw[bK];exact((Fr.refl ay w).alloc _).alloc _
 have k1:w2.heap[w.heap.size]?=some (.cells o.cells.toArray 33 (0,0)):=by rw[bK];exact((Fr.refl ay _).alloc _).keep (af _ _) (fun h=>h)
 have k2:w2.heap[w.heap.size+1]?=some (.cells aM 39 (0,0)):=by
  have h:=af (w.alloc (.cells o.cells.toArray 33)) (.cells aM 39);rw[World.size_alloc]at h;rw[bK];exact h
 have qV:w2.heap.size=w.heap.size+2:=by rw[bK];simp
 have PY:=O (show∀U,Fr ay w2 U->U.heap[w.heap.size]?=some (.cells o.cells.toArray 33 (0,0))from fun U hU=>hU.keep k1 (fun h=>h));have xk:=O Bd;have HH:=O h;have HA:=O ha;have HF:=O hf;have fX:=O df;have HK:=O hk;have dk:=O bq;have iw:=O k1;have mX:=O k2;have j6:=O (show base<=w.heap.size by omega);have q_:=O ku;have j8:=O qR;have LQ:=O bK
 obtain⟨a0,a1,a2,a3,a4,a5,a6,a7,a8,a9,eK,eL,a12,eH,eM,eC,eW,eX,eY,fc,a20,a21⟩:=bJ k1 df;rw[bK]at a0 a1 a2 a3 a4 a5 a6 a7 a8 a9 eK eL a12 eH eM eC eW eX eY fc a20 a21;rw[aZ df]at bK a0 a1 a2 a3 a4 a5 a6 a7 a8 a9 eK eL a12 eH eM eC eW eX eY fc a20 a21 ⊢;unfold aM at bK a0 a1 a2 a3 a4 a5 a6 a7 a8 a9 eK eL a12 eH eM eC eW eX eY fc a20 a21;have ka:=O bK
 obtain⟨w3,Oa⟩:∃w3,w3=w2.alloc (.cells #[.bool o.ab.o.ae,.string o.ab.o.host,.int .i64 o.ab.o.port] 24):=⟨_,rfl⟩;have dv:Fr ay w2 w3:=by rw[Oa];exact(Fr.refl ay w2).alloc _
 have k3:w3.heap[w2.heap.size]?=some (.cells #[.bool o.ab.o.ae,.string o.ab.o.host,.int .i64 o.ab.o.port] 24 (0,0)):=by rw[Oa];exact af _ _
 rw[qV]at k3;have dV:=O (dk.out.trans dv);have HK3:=O k3;have aiT:=O (PY.out w3 dv);have aa8:=O (dv.keep mX.out (fun h=>h));have JV:=O Oa;have H3:=O (HH.out.bd dV.out);have XQ:=O (HA.out.bd dV.out);have Ma:=HK.out.xc;have Hk:w3.heap.size=w.heap.size+1+1+1:=by rw[Oa];simp;omega
 clear Oa dv k3;clear bK df bq k1 k2 h ha hf Bd hk;go_enter Tryz.func60,Tryz.ntmps60;have hx:=ka;have mE:=ka.out;cases dy:o.all
 case true =>
  rw[dy]at mE;by_cases h9:o.what=9
  ·have HR:=O (show kN p (o.bF hs)=(qh,rep 1)by
    unfold kN;rw[if_pos];show(o.all&&o.what==9)=true;rw[dy,h9];rfl)
   have HP:=O (aA.fresh H3.out XQ.out q_.out);rw[Hk]at HP;rw[h9]at mE;have Cq:cD ((w3.alloc (.cells #[.slice none 0 0,.slice none 0 0] 139)).alloc (.cells #[.slice none 0 0] 141)) B cs off v:=XQ.out.bd (((Fr.refl ay w3).alloc _).alloc _);have c0:=Cq.cell0;have c1:=Cq.dM;have c2:=Cq.ir;have f0:=Cq.free off;have f1:=Cq.free (off+1);have f2:=Cq.free (off+2)
   have vr:=O (oG (oG (oG ((((Fr.refl ay w3).alloc (.cells #[.slice none 0 0,.slice none 0 0] 139)).alloc (.cells #[.slice none 0 0] 141)).keep aa8.out (fun h=>h)) (show w.heap.size+1≠B by omega) off (.pointer (some ⟨w.heap.size+1+1+1,0,none⟩))) (show w.heap.size+1≠B by omega) (off+1) (.pointer (some ⟨w.heap.size+1+1+1+1,0,none⟩))) (show w.heap.size+1≠B by omega) (off+2) (.slice none 0 0));clear Cq
   go_wp2_with (first|((with_reducible refine ag ⟨none,.store 102 _ _,_,_,_,_⟩ ?_);have Hy:=hx;clear hx Hy;go_must(rw[<-mE];rw[<-JV.out];generalize (w3.alloc (.cells #[.slice none 0 0,.slice none 0 0] 139)).alloc (.cells #[.slice none 0 0] 141)=W5 at *))|((with_reducible refine ag ⟨none,.store 39 _ _,_,_,_,_⟩ ?_);go_must(refine wpList_store_row rfl 39 (.tmp 4) (.tmp 24) rfl (w.heap.size+1) #[.int .i64 1,.string ⟨#[]⟩,.int .i64 0] rfl rfl _ aM vr.out (az _ rfl) rfl (by simp[Value.oneCell']) ?_)))
   refine bodyPost_ret (results_cell_row (by rfl) _ _ (w.heap.size+1) 39 #[.int .i64 1,.string ⟨#[]⟩,.int .i64 0] (0,0) _ rfl (setRow_heap _ (w.heap.size+1) _ _ _ _ vr.out) Tryz.underlying39 rfl (az _ rfl)) rfl ?_;unfold bL;rw[HR.out];exact⟨rfl,aA.row (HP.out.after dV.out) j6.out j8.out (Nat.le_succ _) vr.out bN (by decide) _⟩
  ·have t9:(o.what==9)=false:=beq_eq_false_iff_ne.2 h9;clear h9;have XJ:=O (show∀U,Fr ay w3 U->Calls Tryz.prog 122 #[.pointer (some ⟨v.b,0,none⟩),.agg #[.bool o.ab.o.ae,.string o.ab.o.host,.int .i64 o.ab.o.port]] U (qL base U v.b v.gv v.wv p.aH p.waits o.ab.o)from fun U hU=>AJ base U v.b v.gv v.wv p.aH p.waits o.ab.o ((H3.out.bd hU).gK) (by omega))
   have Bg:=O (show∀U,Fr (aY v.b v.gv v.wv) w3 U->(U.cell? ⟨B,off,none⟩=some (.pointer (some ⟨v.b,0,none⟩))/\U.cell? ⟨w.heap.size+2,0,none⟩=some (.bool o.ab.o.ae)/\U.cell? ⟨w.heap.size+2,1,none⟩=some (.string o.ab.o.host)/\U.cell? ⟨w.heap.size+2,2,none⟩=some (.int .i64 o.ab.o.port))from fun U hU=>by
    have j1:=XQ.out.fr hU (fun hb=>xk.out (Or.inl hb));have j2:=hU.keep HK3.out (fun hb=>by
     obtain⟨c,t,e,hk⟩:=H3.out.gK.dG hb;rw[HK3.out]at e;cases e;revert hk;decide)
    exact⟨j1.cell0,by simp[World.cell?,j2]⟩)
   go_wp2_with fail
   rw[<-mE, <-JV.out];clear a0 a1 a2 a3 a4 a5 a6 a7 a8 a9 eK eL a12 eH eM eC eW eX eY fc a20 a21 mE
   go_region_held3 (fun U=>Fr (aY v.b v.gv v.wv) w3 U/\U.cell? ⟨B,off,none⟩=some (.pointer (some ⟨v.b,0,none⟩))/\U.cell? ⟨w.heap.size+2,0,none⟩=some (.bool o.ab.o.ae)/\U.cell? ⟨w.heap.size+2,1,none⟩=some (.string o.ab.o.host)/\U.cell? ⟨w.heap.size+2,2,none⟩=some (.int .i64 o.ab.o.port)) ((refine(fun hU=>⟨hU,Bg.out _ hU⟩) ?_;first|exact Fr.drew (Fr.refl _ _)|assumption))
    ((first
     |(go_at_call 122;refine(XJ.out _ (Fr.drew (Fr.refl _ _))).mono ?_;rintro e u4 ⟨rfl,ph⟩;have aa9:Fr (aY v.b v.gv v.wv) w3 u4:=(Fr.drew (Fr.refl _ _)).trans (by obtain⟨_,_,_,h,_⟩:=ph;exact h))))
   obtain⟨v4,i4,f4,Fs,Ql⟩:=aA.gK (H3.out.bd (Fr.drew (Fr.refl ay w3))) (XQ.out.bd (Fr.drew (Fr.refl ay w3))) xk.out ph;have a4:=cD.after XQ.out Ql;have o4:=bM (H3.out.bd (Fr.drew (Fr.refl ay w3))) f4 (show w3.drew.heap[w.heap.size]?=_ from aiT.out) aO (by omega);have r4:=bM (H3.out.bd (Fr.drew (Fr.refl ay w3))) f4 (show w3.drew.heap[w.heap.size+1]?=_ from aa8.out) aD (by omega)
   have g4:=bM (H3.out.bd (Fr.drew (Fr.refl ay w3))) f4 (show w3.drew.heap[w.heap.size+2]?=_ from HK3.out) kx (by omega);have I4:=O i4;have F4:=O f4;have FT4:=O Fs;have XR:=O a4;have O4:=O o4;have R4:=O r4;have G4:=O g4;obtain⟨a0,a1,a2,a3,a4,a5,a6,a7,a8,a9,eK,eL,a12,eH,eM,eC,eW,eX,eY,fc,a20,a21⟩:=bJ o4 fX.out;clear ph aa9 i4 f4 Fs a4 o4 r4 g4 Ql Bg XJ
   have HR:=O (show kN p (o.bF hs)=(qi p o.ab.o,rep 1)by
    unfold kN;rw[if_neg,if_neg]
    ·rfl
    ·show¬(o.what==9)=true;rw[t9];exact Bool.false_ne_true
    ·show¬(o.all&&o.what==9)=true;rw[t9,Bool.and_false];exact Bool.false_ne_true)
   have HP:=O (show aA base w3 B cs off v (qi p o.ab.o) u4 from aA.after (Fr.drew (Fr.refl ay w3)) ⟨v4,I4.out,F4.out,FT4.out,XR.out.cR⟩)
   go_wp2_with (first|((with_reducible refine ag ⟨none,.store 39 _ _,_,_,_,_⟩ ?_);go_must(refine wpList_store_row rfl 39 (.tmp 4) (.tmp 43) rfl (w.heap.size+1) #[.int .i64 1,.string ⟨#[]⟩,.int .i64 0] rfl rfl _ aM R4.out (az _ rfl) rfl (by simp[Value.oneCell']) ?_))|fail)
   refine bodyPost_ret (results_cell_row (by rfl) _ _ (w.heap.size+1) 39 #[.int .i64 1,.string ⟨#[]⟩,.int .i64 0] (0,0) _ rfl (setRow_heap u4 (w.heap.size+1) _ _ _ _ R4.out) Tryz.underlying39 rfl (az _ rfl)) rfl ?_;unfold bL;rw[HR.out];exact⟨rfl,aA.row (HP.out.after dV.out) j6.out j8.out (Nat.le_succ _) R4.out bN (by decide) _⟩
 case false =>
  rw[dy]at mE;have XJ:=O (show∀U,Fr ay w3 U->Calls Tryz.prog 122 #[.pointer (some ⟨v.b,0,none⟩),.agg #[.bool o.ab.o.ae,.string o.ab.o.host,.int .i64 o.ab.o.port]] U (qL base U v.b v.gv v.wv p.aH p.waits o.ab.o)from fun U hU=>AJ base U v.b v.gv v.wv p.aH p.waits o.ab.o ((H3.out.bd hU).gK) (by omega))
  have Bg:=O (show∀U,Fr (aY v.b v.gv v.wv) w3 U->(U.cell? ⟨B,off,none⟩=some (.pointer (some ⟨v.b,0,none⟩))/\U.cell? ⟨w.heap.size+2,0,none⟩=some (.bool o.ab.o.ae)/\U.cell? ⟨w.heap.size+2,1,none⟩=some (.string o.ab.o.host)/\U.cell? ⟨w.heap.size+2,2,none⟩=some (.int .i64 o.ab.o.port))from fun U hU=>by
   have j1:=XQ.out.fr hU (fun hb=>xk.out (Or.inl hb));have j2:=hU.keep HK3.out (fun hb=>by
    obtain⟨c,t,e,hk⟩:=H3.out.gK.dG hb;rw[HK3.out]at e;cases e;revert hk;decide)
   exact⟨j1.cell0,by simp[World.cell?,j2]⟩)
  go_wp2_with fail
  rw[<-mE, <-JV.out];clear a0 a1 a2 a3 a4 a5 a6 a7 a8 a9 eK eL a12 eH eM eC eW eX eY fc a20 a21 mE
  go_region_held3 (fun U=>Fr (aY v.b v.gv v.wv) w3 U/\U.cell? ⟨B,off,none⟩=some (.pointer (some ⟨v.b,0,none⟩))/\U.cell? ⟨w.heap.size+2,0,none⟩=some (.bool o.ab.o.ae)/\U.cell? ⟨w.heap.size+2,1,none⟩=some (.string o.ab.o.host)/\U.cell? ⟨w.heap.size+2,2,none⟩=some (.int .i64 o.ab.o.port)) ((refine(fun hU=>⟨hU,Bg.out _ hU⟩) ?_;first|exact Fr.drew (Fr.refl _ _)|assumption))
   ((first
    |(go_at_call 122;refine(XJ.out _ (Fr.drew (Fr.refl _ _))).mono ?_;rintro e u4 ⟨rfl,ph⟩;have aa9:Fr (aY v.b v.gv v.wv) w3 u4:=(Fr.drew (Fr.refl _ _)).trans (by obtain⟨_,_,_,h,_⟩:=ph;exact h))))
  obtain⟨v4,i4,f4,Fs,Ql⟩:=aA.gK (H3.out.bd (Fr.drew (Fr.refl ay w3))) (XQ.out.bd (Fr.drew (Fr.refl ay w3))) xk.out ph;have a4:=cD.after XQ.out Ql;have o4:=bM (H3.out.bd (Fr.drew (Fr.refl ay w3))) f4 (show w3.drew.heap[w.heap.size]?=_ from aiT.out) aO (by omega);have r4:=bM (H3.out.bd (Fr.drew (Fr.refl ay w3))) f4 (show w3.drew.heap[w.heap.size+1]?=_ from aa8.out) aD (by omega)
  have g4:=bM (H3.out.bd (Fr.drew (Fr.refl ay w3))) f4 (show w3.drew.heap[w.heap.size+2]?=_ from HK3.out) kx (by omega);have I4:=O i4;have F4:=O f4;have FT4:=O Fs;have XR:=O a4;have O4:=O o4;have R4:=O r4;have G4:=O g4;obtain⟨a0,a1,a2,a3,a4,a5,a6,a7,a8,a9,eK,eL,a12,eH,eM,eC,eW,eX,eY,fc,a20,a21⟩:=bJ o4 fX.out;clear ph aa9 i4 f4 Fs a4 o4 r4 g4 Ql Bg XJ;by_cases h9:o.what=9
  ·have t9:(o.what==9)=true:=by rw[h9];rfl
   clear h9;have HR:=O (show kN p (o.bF hs)=(Ce p o.ab.o,rep 1)by
    unfold kN;rw[if_neg,if_pos]
    ·rfl
    ·show(o.what==9)=true;exact t9
    ·show¬(o.all&&o.what==9)=true;rw[dy,Bool.false_and];exact Bool.false_ne_true)
   have pA:=O (show∀U,Fr ay u4 U->Calls Tryz.prog 123 #[.pointer (some ⟨v4.k,0,none⟩),.agg #[.bool o.ab.o.ae,.string o.ab.o.host,.int .i64 o.ab.o.port]] U (nN base U v4.k v4.kv p.book (bI.qg o.ab.o))from fun U hU=>G5 base U v4.k v4.kv p.book o.ab.o ((I4.out.bd hU).book) (by omega))
   have Bg:=O (show∀U,Fr (dK v4.k v4.kv) u4 U->(U.cell? ⟨B,off+1,none⟩=some (.pointer (some ⟨v4.k,0,none⟩))/\U.cell? ⟨w.heap.size+2,0,none⟩=some (.bool o.ab.o.ae)/\U.cell? ⟨w.heap.size+2,1,none⟩=some (.string o.ab.o.host)/\U.cell? ⟨w.heap.size+2,2,none⟩=some (.int .i64 o.ab.o.port))from fun U hU=>by
    have j1:=XR.out.fr hU (fun hb=>I4.out.bX XR.out.cR (by decide) (Or.inr (Or.inl hb)));have j2:=hU.keep G4.out (fun hb=>I4.out.bX G4.out kx (Or.inr (Or.inl hb)));exact⟨j1.dM,by simp[World.cell?,j2]⟩)
   go_wp2_with fail
   clear a0 a1 a2 a3 a4 a5 a6 a7 a8 a9 eK eL a12 eH eM eC eW eX eY fc a20 a21
   go_region_held3 (fun U=>Fr (dK v4.k v4.kv) u4 U/\U.cell? ⟨B,off+1,none⟩=some (.pointer (some ⟨v4.k,0,none⟩))/\U.cell? ⟨w.heap.size+2,0,none⟩=some (.bool o.ab.o.ae)/\U.cell? ⟨w.heap.size+2,1,none⟩=some (.string o.ab.o.host)/\U.cell? ⟨w.heap.size+2,2,none⟩=some (.int .i64 o.ab.o.port)) ((refine(fun hU=>⟨hU,Bg.out _ hU⟩) ?_;first|exact Fr.drew (Fr.refl _ _)|assumption))
    ((first
     |(go_at_call 123;refine(pA.out _ (Fr.drew (Fr.refl _ _))).mono ?_;rintro e u5 ⟨rfl,zD⟩;have ap':Fr (dK v4.k v4.kv) u4 u5:=(Fr.drew (Fr.refl _ _)).trans (by obtain⟨_,_,h,_⟩:=zD;exact h))))
   obtain⟨v5,i5,f5,Fq,Qi⟩:=aA.book (I4.out.bd (Fr.drew (Fr.refl ay u4))) (XR.out.bd (Fr.drew (Fr.refl ay u4))) (I4.out.bX XR.out.cR (by decide)) zD;have a5:=cD.after XR.out Qi;have r5:=bM (I4.out.bd (Fr.drew (Fr.refl ay u4))) f5 (show u4.drew.heap[w.heap.size+1]?=_ from R4.out) aD (by omega)
   have g5:=bM (I4.out.bd (Fr.drew (Fr.refl ay u4))) f5 (show u4.drew.heap[w.heap.size+2]?=_ from G4.out) kx (by omega);have DR:=O (Fp base u5 B off _ v5 _ o.ab.o i5 a5 q_.out);have l0:u5.cell? ⟨w.heap.size+2,0,none⟩=some (.bool o.ab.o.ae):=by simp[World.cell?,g5]
   have l1:u5.cell? ⟨w.heap.size+2,1,none⟩=some (.string o.ab.o.host):=by simp[World.cell?,g5]
   have l2:u5.cell? ⟨w.heap.size+2,2,none⟩=some (.int .i64 o.ab.o.port):=by simp[World.cell?,g5]
   have I5:=O i5;have F5:=O f5;have FT5:=O Fq;have R5:=O r5;unfold cO.cells at DR;clear zD ap' i5 f5 Fq a5 r5 g5 Qi Bg pA;go_wp2_with fail
   refine DR.out.mono ?_;rintro e u6⟨rfl,WK⟩;have CW:=O (show u6.heap[w.heap.size+1]?=_ from bM I5.out (by obtain⟨_,_,h,_⟩:=WK;exact h) R5.out aD (by omega));have HP:=O (show aA base w3 B cs off v (Ce p o.ab.o) u6 from aA.after (Fr.drew (Fr.refl ay w3)) (aA.seq F4.out FT4.out (aA.after (Fr.drew (Fr.refl ay u4)) (aA.seq F5.out FT5.out WK))));clear DR WK l0 l1 l2
   go_wp2_with (first|((with_reducible refine ag ⟨none,.store 39 _ _,_,_,_,_⟩ ?_);go_must(refine wpList_store_row rfl 39 (.tmp 4) (.tmp 43) rfl (w.heap.size+1) #[.int .i64 1,.string ⟨#[]⟩,.int .i64 0] rfl rfl _ aM CW.out (az _ rfl) rfl (by simp[Value.oneCell']) ?_))|fail)
   refine bodyPost_ret (results_cell_row (by rfl) _ _ (w.heap.size+1) 39 #[.int .i64 1,.string ⟨#[]⟩,.int .i64 0] (0,0) _ rfl (setRow_heap u6 (w.heap.size+1) _ _ _ _ CW.out) Tryz.underlying39 rfl (az _ rfl)) rfl ?_;unfold bL;rw[HR.out];exact⟨rfl,aA.row (HP.out.after dV.out) j6.out j8.out (Nat.le_succ _) CW.out bN (by decide) _⟩
  ·have t9:(o.what==9)=false:=beq_eq_false_iff_ne.2 h9;clear h9;have HR:=O (show kN p (o.bF hs)=(qi p o.ab.o,rep 1)by
    unfold kN;rw[if_neg,if_neg]
    ·rfl
    ·show¬(o.what==9)=true;rw[t9];exact Bool.false_ne_true
    ·show¬(o.all&&o.what==9)=true;rw[t9,Bool.and_false];exact Bool.false_ne_true)
   have HP:=O (show aA base w3 B cs off v (qi p o.ab.o) u4 from aA.after (Fr.drew (Fr.refl ay w3)) ⟨v4,I4.out,F4.out,FT4.out,XR.out.cR⟩)
   go_wp2_with (first|((with_reducible refine ag ⟨none,.store 39 _ _,_,_,_,_⟩ ?_);go_must(refine wpList_store_row rfl 39 (.tmp 4) (.tmp 43) rfl (w.heap.size+1) #[.int .i64 1,.string ⟨#[]⟩,.int .i64 0] rfl rfl _ aM R4.out (az _ rfl) rfl (by simp[Value.oneCell']) ?_))|fail)
   refine bodyPost_ret (results_cell_row (by rfl) _ _ (w.heap.size+1) 39 #[.int .i64 1,.string ⟨#[]⟩,.int .i64 0] (0,0) _ rfl (setRow_heap u4 (w.heap.size+1) _ _ _ _ R4.out) Tryz.underlying39 rfl (az _ rfl)) rfl ?_;unfold bL;rw[HR.out];exact⟨rfl,aA.row (HP.out.after dV.out) j6.out j8.out (Nat.le_succ _) R4.out bN (by decide) _⟩
end Go.Proofs.YtjdmjbdkdmbaiaaGreatDoor
