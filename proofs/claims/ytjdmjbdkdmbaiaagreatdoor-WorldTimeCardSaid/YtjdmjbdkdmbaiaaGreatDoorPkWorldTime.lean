/- WTime, LiftWorldTime. -/
import Derived.Test.YtjdmjbdkdmbaiaaGreatDoorPk47
import Derived.Test.YtjdmjbdkdmbaiaaGreatDoorTie
import Derived.Test.YtjdmjbdkdmbaiaaGreatDoorCards
import Derived.LaidMore
import Derived.Lay
set_option maxRecDepth 100000
set_option maxHeartbeats 16000000
set_option linter.unusedSimpArgs false
namespace Go.Proofs.YtjdmjbdkdmbaiaaGreatDoor
open Go.RowKit
theorem zb(v:Value)(os:List (ei×List dW))(o:ei)(hs:List dW)(w:World)(sO:gM w v os)(vD:jw w o hs)(pw:nI w)(md:kX w)(sh:kZ w)(db:iu w 9 .u8 Gr) :
  Calls Tryz.prog 6 #[v,.agg o.cells.toArray] w fun e w'=>e=.returned (.bool true)/\Below w.heap.size w w':=by
 have ht:fN w:=⟨⟨db,md,sh⟩,pw⟩;obtain⟨av,cv,cA⟩:=sO.1.form;rw[List.length_map]at cA;subst cA;obtain⟨ah,ch,df⟩:=aN.form vD.ab.cU;rw[List.length_map]at df;obtain⟨w0,pB⟩:∃w0,w0=w.alloc (.cells o.cells.toArray 33):=⟨_,rfl⟩;have iJ:Fr ay w w0:=by rw[pB];exact(Fr.refl ay w).alloc _
 have k0:w0.heap[w.heap.size]?=some (.cells o.cells.toArray 33 (0,0)):=by rw[pB];exact af _ _
 have qw:w0.heap.size=w.heap.size+1:=by rw[pB];simp
 have HT:=O ht;have fX:=O df;have oK:=O iJ;have HK0:=O k0;have Qf:=O vD;have HA0:=O sO
 have Qu:=O (show∀U,Fr ay w0 U->U.heap[w.heap.size]?=some (.cells #[.int .i64 o.what,.int .i64 o.ab.part,.bool o.ab.aI.ae,.string o.ab.aI.host,.int .i64 o.ab.aI.port,.bool o.ab.o.ae,.string o.ab.o.host,.int .i64 o.ab.o.port,.string o.ab.path,.string o.ab.query,.string o.ab.method,.slice ah hs.length ch,.bool o.ab.bP,.string o.ab.body,.bool o.proxy,.string o.text,.string o.user,.string o.pass,.string o.aB,.int .i64 o.cert,.bool o.all,.int .i64 o.n] 33 (0,0))from fun U hU=>by rw[<-aZ df];exact hU.keep k0 (fun h=>h))
 have Qv:=O (show∀U,Fr ay w U->Calls Tryz.prog 14 #[] U _ from fun U hU=>qU U (ht.fr hU));have LU:=O (show∀U,Fr ay w U->Calls Tryz.prog 15 #[.slice av os.length cv] U _ from fun U hU=>kQ _ os U (sO.fr hU))
 have BD:=O (show∀U n t,Fr ay w U->U.heap[n]?=some (.cells #[.int .i64 o.what,.int .i64 o.ab.part,.bool o.ab.aI.ae,.string o.ab.aI.host,.int .i64 o.ab.aI.port,.bool o.ab.o.ae,.string o.ab.o.host,.int .i64 o.ab.o.port,.string o.ab.path,.string o.ab.query,.string o.ab.method,.slice ah hs.length ch,.bool o.ab.bP,.string o.ab.body,.bool o.proxy,.string o.text,.string o.user,.string o.pass,.string o.aB,.int .i64 o.cert,.bool o.all,.int .i64 o.n] t (0,0))->Calls Tryz.prog 15 #[.slice (some ⟨n,0,none⟩) 1 1] U fun e w'=>e=.returned (.bool (!fU (o,hs)))/\Fr ay U w' from fun U n t hU hb=>by
  have h:=kQ _ [(o,hs)] U (gM.one (vD.fr hU) df (by rw[aZ df];exact hb));rw[vA]at h;exact h)
 have Qw:=O (show jy os=true->∀U,Fr ay w U->Calls Tryz.prog 16 #[.slice av os.length cv] U _ from fun rO U hU=>oM w.heap.size _ os U (sO.fr hU) rO w ht (Nat.le_refl _) hU hU.size);rw[pB]at k0;rw[aZ df]at pB k0 ⊢;have HW0:=O pB;clear pB df iJ k0 qw sO vD ht pw md sh db;go_enter Tryz.func6,Tryz.ntmps6;go_wp2_with fail
 rw[<-HW0.out];refine(Qv.out _ oK.out).mono ?_;rintro e u1⟨rfl,h1⟩;have H1:=O h1;clear h1;go_wp2_with fail
 refine(LU.out _ (oK.out.trans H1.out)).mono ?_;rintro e u2⟨rfl,h2⟩;have H2:=O (H1.out.trans h2);have Ja:=O (Qu.out _ H2.out);clear h2 Qv LU;cases zg:jy os
 ·clear zg;go_wp2;go_ret;exact⟨rfl,(oK.out.trans H2.out).bQ⟩
 have LS:=O zg;clear zg
 go_wp2_with (first|((with_reducible refine ag ⟨some 14,_,_,_,_,_⟩ ?_);go_must(refine fV (by rfl) 33 (.tmp 3) rfl w.heap.size rfl _ #[.int .i64 o.what,.int .i64 o.ab.part,.bool o.ab.aI.ae,.string o.ab.aI.host,.int .i64 o.ab.aI.port,.bool o.ab.o.ae,.string o.ab.o.host,.int .i64 o.ab.o.port,.string o.ab.path,.string o.ab.query,.string o.ab.method,.slice ah hs.length ch,.bool o.ab.bP,.string o.ab.body,.bool o.proxy,.string o.text,.string o.user,.string o.pass,.string o.aB,.int .i64 o.cert,.bool o.all,.int .i64 o.n] (0,0) _ Ja.out Tryz.underlying33 rfl (by kernel_rfl) ?_))|fail)
 obtain⟨u3,pz⟩:∃u3,u3=u2.alloc (.cells #[.int .i64 o.what,.int .i64 o.ab.part,.bool o.ab.aI.ae,.string o.ab.aI.host,.int .i64 o.ab.aI.port,.bool o.ab.o.ae,.string o.ab.o.host,.int .i64 o.ab.o.port,.string o.ab.path,.string o.ab.query,.string o.ab.method,.slice ah hs.length ch,.bool o.ab.bP,.string o.ab.body,.bool o.proxy,.string o.text,.string o.user,.string o.pass,.string o.aB,.int .i64 o.cert,.bool o.all,.int .i64 o.n] 33):=⟨_,rfl⟩
 have dv:Fr ay u2 u3:=by rw[pz];exact(Fr.refl _ _).alloc _
 have H3:=O (H2.out.trans dv)
 have jQ:=af u2 (.cells #[.int .i64 o.what,.int .i64 o.ab.part,.bool o.ab.aI.ae,.string o.ab.aI.host,.int .i64 o.ab.aI.port,.bool o.ab.o.ae,.string o.ab.o.host,.int .i64 o.ab.o.port,.string o.ab.path,.string o.ab.query,.string o.ab.method,.slice ah hs.length ch,.bool o.ab.bP,.string o.ab.body,.bool o.proxy,.string o.text,.string o.user,.string o.pass,.string o.aB,.int .i64 o.cert,.bool o.all,.int .i64 o.n] 33)
 rw[<-pz]at jQ ⊢;clear pz dv;refine(BD.out _ _ _ (oK.out.trans H3.out) jQ).mono ?_;rintro e u4⟨rfl,h4⟩;have H4:=O (H3.out.trans h4);clear h4 jQ BD;cases FI:fU (o,hs)
 case true =>
  clear FI;go_wp2;go_ret;exact⟨rfl,(oK.out.trans H4.out).bQ⟩
 have Nf:=O FI;clear FI;go_wp2_with fail
 refine(Qw.out LS.out _ (oK.out.trans H4.out)).mono ?_;rintro e u5⟨B,pv,rfl,wQ,rk,h5,AF⟩;obtain⟨x,hx⟩:∃x,x=nM (opsL os):=⟨_,rfl⟩;rw[<-hx]at wQ rk;have Nd:=O wQ;have C4:=O rk;have H5:=O (H4.out.trans h5);have HLW:=O AF;have uI:=O (show∀U,Fr ay w U->bg U o hs from fun U hU=>bg.Mt (Qf.out.fr hU) Nf.out);clear wQ rk h5 AF hx Qw LS Nf;have jF:=O (oK.out.trans H5.out);have rA:=O (Qu.out _ H5.out)
 have Qx:=O (Fz _ _ _ _ _ Nd.out);go_wp2_with fail
 refine Qx.out.mono ?_;rintro e u⟨rfl,hu⟩;rw[hu];clear hu;clear Qx;obtain⟨y1,ze⟩:∃y1,y1=cV x ((o).bF hs):=⟨_,rfl⟩
 have HD3:=O (show Calls Tryz.prog 17 #[.pointer (some ⟨B,0,none⟩),.agg #[.int .i64 o.what,.int .i64 o.ab.part,.bool o.ab.aI.ae,.string o.ab.aI.host,.int .i64 o.ab.aI.port,.bool o.ab.o.ae,.string o.ab.o.host,.int .i64 o.ab.o.port,.string o.ab.path,.string o.ab.query,.string o.ab.method,.slice ah hs.length ch,.bool o.ab.bP,.string o.ab.body,.bool o.proxy,.string o.text,.string o.user,.string o.pass,.string o.aB,.int .i64 o.cert,.bool o.all,.int .i64 o.n]] u5 (fun e w'=>e=.returned (.agg #[.int .i64 y1.2.what,.string y1.2.head,.int .i64 y1.2.cert])/\aC w.heap.size u5 B pv y1.1 w')from by
  have h:=ja (o:=o) (hs:=hs) Nd.out jF.out C4.out HT.out (uI.out _ jF.out);rw[aZ (o:=o) (hs:=hs) fX.out]at h;rw[ze];exact h)
 have nR:=O (show fW y1.1 by rw[ze];exact bg.small (uI.out _ jF.out) C4.out);have HY5:=O ze;clear ze
 go_wp2_with (first|((with_reducible refine ag ⟨some 24,_,_,_,_,_⟩ ?_);go_must(refine wpList_load_row rfl 33 (.tmp 3) rfl (w.heap.size) rfl _ #[.int .i64 o.what,.int .i64 o.ab.part,.bool o.ab.aI.ae,.string o.ab.aI.host,.int .i64 o.ab.aI.port,.bool o.ab.o.ae,.string o.ab.o.host,.int .i64 o.ab.o.port,.string o.ab.path,.string o.ab.query,.string o.ab.method,.slice ah hs.length ch,.bool o.ab.bP,.string o.ab.body,.bool o.proxy,.string o.text,.string o.user,.string o.pass,.string o.aB,.int .i64 o.cert,.bool o.all,.int .i64 o.n] (0,0) _ rA.out Tryz.underlying33 rfl (by kernel_rfl) ?_))|fail)
 refine HD3.out.mono ?_;rintro e u6⟨rfl,hp⟩;obtain⟨pv7,gA,gB,dH⟩:=cb Nd.out jF.out (Nat.le_refl _) hp;have HW8:=O gA;have FO:=O gB;have aqq:=O (dH _ _ _ rA.out aO (by decide));clear hp gA gB dH HD3;have HTM:=O (O9 x (o.bF hs));rw[<-HY5.out]at HTM;have Qy:=O (show∃W,W=u6.alloc (.cells #[.int .i64 y1.2.what,.string y1.2.head,.int .i64 y1.2.cert] 39)from⟨_,rfl⟩);obtain⟨PK,hh⟩:=Qy.out;clear Qy
 have f13:Fr ay u6 PK:=by rw[hh];exact(Fr.refl _ _).alloc _
 have aqr:=O (HW8.out.bd f13);have PQ:=O (FO.out.trans f13);have aqs:=O (show PK.heap[u6.heap.size]?=some (.cells #[.int .i64 y1.2.what,.string y1.2.head,.int .i64 y1.2.cert] 39 (0,0))by rw[hh];exact af _ _);have ai8:=O (f13.keep aqq.out (fun h=>h));have ai9:=O hh;clear hh f13;have Qx:=O (fun n=>Fz _ _ _ _ _ (aqr.out.bd ((Fr.refl ay PK).drewN n)))
 have c0:PK.cell? ⟨w.heap.size,0,none⟩=some (.int .i64 o.what):=by have h:=ai8.out;simp only[World.cell?,h];rfl
 have c21:PK.cell? ⟨w.heap.size,21,none⟩=some (.int .i64 o.n):=by have h:=ai8.out;simp only[World.cell?,h];rfl
 have d0:PK.cell? ⟨u6.heap.size,0,none⟩=some (.int .i64 y1.2.what):=by have h:=aqs.out;simp only[World.cell?,h];rfl
 have e0:=nR.out.ok.now.1;have e1:=nR.out.ok.now.2;have g0:=C4.out.ok.now.1;have g1:=C4.out.ok.now.2;have on:=(uI.out _ (Fr.refl _ _)).n;have qJ:=PQ.out;rw[ai9.out]at c0 c21 d0 Qx qJ;have Na:=O qJ;clear qJ;by_cases hw:o.what=10
 ·by_cases hq:y1.2.what=1
  ·have hl:=HTM.out;rw[if_pos ⟨hw,hq⟩]at hl;obtain⟨l1,l2⟩:=hl;rw[hw]at c0;have qJ:=Na.out;rw[hq]at c0 c21 d0 Qx qJ;have HFV:=O qJ;clear qJ;have CV:(o.bF hs).n=o.n:=rfl;rw[CV]at l1;rw[l1]at Qx;have HL1:=O l1;have HL2:=O l2;rw[l1]at e0 e1 l2;have hg:decide (x.now+o.n>=x.now)=true:=decide_eq_true l2;clear hw l1 HTM;go_wp2_with fail
   go_quiet ((go_at_call 23;exact Calls.quiet_of_same (Qx.out _)));go_wp2_with fail
   go_ret;exact⟨rfl,(Fr.drewN _ HFV.out).bQ⟩
  ·have hl:=HTM.out;rw[if_neg (fun h=>hq h.2)]at hl;rw[hw]at c0;rw[hl]at Qx;have hd:decide (y1.2.what=1)=false:=decide_eq_false hq;go_wp2_with fail
   refine(Qx.out 0).mono ?_;rintro e u⟨rfl,hu⟩;rw[hu];clear hu;go_wp2;go_ret;exact⟨rfl,Na.out.bQ⟩
 ·have hl:=HTM.out;rw[if_neg (fun h=>hw h.1)]at hl;rw[hl]at Qx;have hd:decide (o.what=10)=false:=decide_eq_false hw;go_wp2_with fail
  refine(Qx.out 0).mono ?_;rintro e u⟨rfl,hu⟩;rw[hu];clear hu;go_wp2;go_ret;exact⟨rfl,Na.out.bQ⟩
end Go.Proofs.YtjdmjbdkdmbaiaaGreatDoor
namespace Go.Proofs.YtjdmjbdkdmbaiaaGreatDoor.worldTime
open Go.ChangeShapes Go.WideShapes Go.ChangeAt Go.RowKit
open Go.ChangeMaps (open_string shut_string)
theorem own:ownKnob Tryz.prog.godebug=none:=by kernel_rfl
theorem laidOut:laidOutB Tryz.prog=true:=by kernel_rfl
theorem lifted(os:Os)(started:os.Started)(H:Type)(enc:TypeId×Value->H) :
  ReturnsInHanded {} Tryz.checked os 6 .any (fun w args=>(Rows.worldTimeSpec.pre enc Tryz.prog Tryz.f6 Rows.worldTimeRow.domain false w args/\laidMetH Tryz.prog Rows.worldTimeRow.laid w)/\sizedMet enc Tryz.prog Tryz.f6 (OpenSpec.ofChange Rows.worldTimeSpec) false w args)
   (Rows.worldTimeSpec.post enc Tryz.prog Tryz.f6 false true false false):=by
 refine returnsInHanded_of_change_and (C:=Tryz.checked) (X:=fun w _=>laidMetH Tryz.prog Rows.worldTimeRow.laid w) (fun _ _ _ hh h=>h.of_heap hh) own started (by kernel_rfl) Tryz.func6
  (ChangeSpec.witness_shaped (enc:=enc) (C:=Tryz.checked) (os:=os) (X:=fun w _=>laidMetH Tryz.prog Rows.worldTimeRow.laid w) false (World.laidAll Tryz.prog os Rows.worldTimeRow.laid) #[.slice none 0 0,.agg #[.int .i64 0,.int .i64 0,.bool false,.string ByteArray.empty,.int .i64 0,.bool false,.string ByteArray.empty,.int .i64 0,.string ByteArray.empty,.string ByteArray.empty,.string ByteArray.empty,.slice none 0 0,.bool false,.string ByteArray.empty,.bool false,.string ByteArray.empty,.string ByteArray.empty,.string ByteArray.empty,.string ByteArray.empty,.int .i64 0,.bool false,.int .i64 0]] 8 (World.laidAll_os _ _ _)
   (World.shaped_of_ZipB (by kernel_rfl) (by kernel_rfl)) (by kernel_rfl) (by kernel_rfl) (by kernel_rfl)
   (by rw[MakeChecks.laidMetH_plain _ _ _ (by kernel_rfl)];exact laidMet_laidAll _ (by kernel_rfl) (by kernel_rfl))) ?_
 intro W base args ds gs before qx hW _ qw hL _;have mz:(DataW.weightsEach Tryz.prog (Tryz.f6.params.toList++Rows.worldTimeSpec.plain.varTypes Tryz.prog) (ds++gs)).all (· <=reachBytes)=true:=qw;clear qw;have hval:∀(j:Nat) t v,Tryz.f6.params[j]?=some t->args[j]?=some v->Value.okWide Tryz.prog W .any base t v:=qx;have hW':=hW;obtain⟨p,q,Qz,hV,rfl,_,_⟩:=hW
 have hA:DataW.TrodAll enc Tryz.prog W 0 (fun _=>true) true Tryz.f6.params.toList args.toList ds p:=Qz;rw[Tryz.params6]at hA hval mz;obtain⟨v0,vs0,d0,ds0,p0,q0,QA,rfl,rfl,h0,r0⟩:=trodAll_cons hA;obtain⟨v1,vs1,d1,ds1,p1,q1,rfl,rfl,rfl,h1,r1⟩:=trodAll_cons r0;obtain⟨rfl,rfl,rfl⟩:=trodAll_nil r1;obtain rfl:args= #[v0,v1]:=by cases args;simp_all
 obtain⟨rfl,rfl⟩:=trodVars_none hV;have k0:=h0;have lt0:∀x∈p0,x.block<W.heap.size:=by obtain⟨m,hm⟩:=k0;exact DataW.trod_lt m _ _ _ hm
 obtain⟨ss0,sO⟩:=mY (hval 0 22 v0 rfl rfl) h0 (jY mz (j:=0) (t:=22) rfl rfl);have k1:=h1;have lt1:∀x∈p1,x.block<W.heap.size:=by obtain⟨m,hm⟩:=k1;exact DataW.trod_lt m _ _ _ hm
 obtain⟨o1,ss1,rfl,vD⟩:=mh (hval 1 33 v1 rfl rfl) h1 (jY mz (j:=1) (t:=33) rfl rfl);clear Qz qx;rw[MakeChecks.laidMetH_plain _ _ _ (by kernel_rfl)]at hL;have tb0:=ot hL (by refine⟨?_,?_⟩<;>repeat(first|exact True.intro|exact List.Mem.head _|refine List.Mem.tail _ ?_));have tb1:=mR hL (by refine⟨?_,?_⟩<;>repeat(first|exact True.intro|exact List.Mem.head _|refine List.Mem.tail _ ?_))
 have tb2:=mS hL (by refine⟨?_,?_⟩<;>repeat(first|exact True.intro|exact List.Mem.head _|refine List.Mem.tail _ ?_));have tb3:=om hL (by refine⟨?_,?_⟩<;>repeat(first|exact True.intro|exact List.Mem.head _|refine List.Mem.tail _ ?_));refine(zb _ ss0 o1 ss1  W sO vD tb0 tb1 tb2 tb3).mono fun e W' ⟨he,jE⟩=>?_;subst he
 exact⟨_,rfl,_,_,_,[],_,[],hW',trodAll_mk1 (shut_bool Tryz.underlying4 _),(trodAll_cons_mk (Below.trod laidOut (by kernel_rfl) (of_decide_eq_true (by kernel_rfl)) k0 jE lt0) (trodAll_cons_mk (Below.trod laidOut (by kernel_rfl) (of_decide_eq_true (by kernel_rfl)) k1 jE lt1) trodAll_mk0)),rfl,jE.frame _,fun h=>by cases h⟩
end Go.Proofs.YtjdmjbdkdmbaiaaGreatDoor.worldTime
