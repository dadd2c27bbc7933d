/- RowO, WOnce, LiftWorldOnce. -/
import Derived.Test.YtjdmjbdkdmbaiaaGreatDoorPk47
import Derived.Test.YtjdmjbdkdmbaiaaGreatDoorTie
import Derived.Test.YtjdmjbdkdmbaiaaGreatDoorCards
import Derived.LaidMore
import Derived.Lay
set_option maxRecDepth 100000
set_option maxHeartbeats 16000000
set_option linter.unusedSimpArgs false
namespace Go.Proofs.YtjdmjbdkdmbaiaaGreatDoor
open Go.RowKit
theorem akg{P G:Nat->Nat->World->Prop}{T:Prop}(main:(∀a b c,P a b c->G a b c)->T)(rest:∀a b c,P a b c->G a b c):T:=main rest
theorem cj{base:Nat}{w U:World}{B n:Nat}{pv:Nat->bB}{x:bW}(h:aR base U B pv x)(hf:Fr ay w U)(ku:base<=n)(M7:w.heap.size<=n){cs:Array Value}{t:TypeId}(hb:U.heap[n]?=some (.cells cs t (0,0)))(ht:fJ t)(hw:t≠105)(hs:t≠9)(X:Array Value) :
  aR base (U.setRow n X) B pv x/\Fr ay w (U.setRow n X)/\(U.setRow n X).heap[n]?=some (.cells X t (0,0)) /\
   ∀(m:Nat) (o:Obj),m≠n->U.heap[m]?=some o->(U.setRow n X).heap[m]?=some o:=by
 have fM:Fr (one n) U (U.setRow n X):=(Fr.refl (one n) U).setRow (fun _=>rfl) _;refine⟨h.fr fM ?_ (fun k hk e=>h.yT hb ht hw (by have e':k=n:=e;rw[<-e'];exact hk)),jv hf M7 _,nP hb,fun m o hm ho=>fM.keep ho (fun e=>hm e)⟩;rintro k rfl _;exact⟨ku,fun c f e=>by rw[hb]at e;cases e;exact hs rfl⟩
def asb(w:World)(B:Nat)(x:bW)(C R S:Array Value)(a b:Nat)(W:World):Prop :=
 (∃pv,aR w.heap.size W B pv x)/\Fr ay w W/\W.heap[w.heap.size]?=some (.cells C 33 (0,0))/\W.heap[a]?=some (.cells R 39 (0,0))/\W.heap[b]?=some (.cells S 39 (0,0))
theorem zc(v:Value)(os:List (ei×List dW))(o:ei)(hs:List dW)(w:World)(sO:gM w v os)(vD:jw w o hs)(pw:nI w)(md:kX w)(sh:kZ w)(db:iu w 9 .u8 Gr) :
  Calls Tryz.prog 5 #[v,.agg o.cells.toArray] w fun e w'=>e=.returned (.bool true)/\Below w.heap.size w w':=by
 have ht:fN w:=⟨⟨db,md,sh⟩,pw⟩;obtain⟨av,cv,cA⟩:=sO.1.form;rw[List.length_map]at cA;subst cA;obtain⟨ah,ch,df⟩:=aN.form vD.ab.cU;rw[List.length_map]at df;obtain⟨w0,pB⟩:∃w0,w0=w.alloc (.cells o.cells.toArray 33):=⟨_,rfl⟩;have iJ:Fr ay w w0:=by rw[pB];exact(Fr.refl ay w).alloc _
 have k0:w0.heap[w.heap.size]?=some (.cells o.cells.toArray 33 (0,0)):=by rw[pB];exact af _ _
 have qw:w0.heap.size=w.heap.size+1:=by rw[pB];simp
 have HT:=O ht;have fX:=O df;have oK:=O iJ;have HK0:=O k0;have Qf:=O vD;have HA0:=O sO
 have Qu:=O (show∀U,Fr ay w0 U->U.heap[w.heap.size]?=some (.cells #[.int .i64 o.what,.int .i64 o.ab.part,.bool o.ab.aI.ae,.string o.ab.aI.host,.int .i64 o.ab.aI.port,.bool o.ab.o.ae,.string o.ab.o.host,.int .i64 o.ab.o.port,.string o.ab.path,.string o.ab.query,.string o.ab.method,.slice ah hs.length ch,.bool o.ab.bP,.string o.ab.body,.bool o.proxy,.string o.text,.string o.user,.string o.pass,.string o.aB,.int .i64 o.cert,.bool o.all,.int .i64 o.n] 33 (0,0))from fun U hU=>by rw[<-aZ df];exact hU.keep k0 (fun h=>h))
 have Qv:=O (show∀U,Fr ay w U->Calls Tryz.prog 14 #[] U _ from fun U hU=>qU U (ht.fr hU));have LU:=O (show∀U,Fr ay w U->Calls Tryz.prog 15 #[.slice av os.length cv] U _ from fun U hU=>kQ _ os U (sO.fr hU))
 have BD:=O (show∀U n t,Fr ay w U->U.heap[n]?=some (.cells #[.int .i64 o.what,.int .i64 o.ab.part,.bool o.ab.aI.ae,.string o.ab.aI.host,.int .i64 o.ab.aI.port,.bool o.ab.o.ae,.string o.ab.o.host,.int .i64 o.ab.o.port,.string o.ab.path,.string o.ab.query,.string o.ab.method,.slice ah hs.length ch,.bool o.ab.bP,.string o.ab.body,.bool o.proxy,.string o.text,.string o.user,.string o.pass,.string o.aB,.int .i64 o.cert,.bool o.all,.int .i64 o.n] t (0,0))->Calls Tryz.prog 15 #[.slice (some ⟨n,0,none⟩) 1 1] U fun e w'=>e=.returned (.bool (!fU (o,hs)))/\Fr ay U w' from fun U n t hU hb=>by
  have h:=kQ _ [(o,hs)] U (gM.one (vD.fr hU) df (by rw[aZ df];exact hb));rw[vA]at h;exact h)
 have Qw:=O (show jy os=true->∀U,Fr ay w U->Calls Tryz.prog 16 #[.slice av os.length cv] U _ from fun rO U hU=>oM w.heap.size _ os U (sO.fr hU) rO w ht (Nat.le_refl _) hU hU.size);rw[pB]at k0;rw[aZ df]at pB k0 ⊢;have HW0:=O pB;clear pB df iJ k0 qw sO vD ht pw md sh db;go_enter Tryz.func5,Tryz.ntmps5;go_wp2_with fail
 rw[<-HW0.out];refine(Qv.out _ oK.out).mono ?_;rintro e u1⟨rfl,h1⟩;have H1:=O h1;clear h1;go_wp2_with fail
 refine(LU.out _ (oK.out.trans H1.out)).mono ?_;rintro e u2⟨rfl,h2⟩;have H2:=O (H1.out.trans h2);have Ja:=O (Qu.out _ H2.out);clear h2 Qv LU;cases zg:jy os
 ·clear zg;go_wp2;go_ret;exact⟨rfl,(oK.out.trans H2.out).bQ⟩
 have LS:=O zg;clear zg
 go_wp2_with (first|((with_reducible refine ag ⟨some 14,_,_,_,_,_⟩ ?_);go_must(refine fV (by rfl) 33 (.tmp 3) rfl w.heap.size rfl _ #[.int .i64 o.what,.int .i64 o.ab.part,.bool o.ab.aI.ae,.string o.ab.aI.host,.int .i64 o.ab.aI.port,.bool o.ab.o.ae,.string o.ab.o.host,.int .i64 o.ab.o.port,.string o.ab.path,.string o.ab.query,.string o.ab.method,.slice ah hs.length ch,.bool o.ab.bP,.string o.ab.body,.bool o.proxy,.string o.text,.string o.user,.string o.pass,.string o.aB,.int .i64 o.cert,.bool o.all,.int .i64 o.n] (0,0) _ Ja.out Tryz.underlying33 rfl (by kernel_rfl) ?_))|fail)
 obtain⟨u3,pz⟩:∃u3,u3=u2.alloc (.cells #[.int .i64 o.what,.int .i64 o.ab.part,.bool o.ab.aI.ae,.string o.ab.aI.host,.int .i64 o.ab.aI.port,.bool o.ab.o.ae,.string o.ab.o.host,.int .i64 o.ab.o.port,.string o.ab.path,.string o.ab.query,.string o.ab.method,.slice ah hs.length ch,.bool o.ab.bP,.string o.ab.body,.bool o.proxy,.string o.text,.string o.user,.string o.pass,.string o.aB,.int .i64 o.cert,.bool o.all,.int .i64 o.n] 33):=⟨_,rfl⟩
 have dv:Fr ay u2 u3:=by rw[pz];exact(Fr.refl _ _).alloc _
 have H3:=O (H2.out.trans dv)
 have jQ:=af u2 (.cells #[.int .i64 o.what,.int .i64 o.ab.part,.bool o.ab.aI.ae,.string o.ab.aI.host,.int .i64 o.ab.aI.port,.bool o.ab.o.ae,.string o.ab.o.host,.int .i64 o.ab.o.port,.string o.ab.path,.string o.ab.query,.string o.ab.method,.slice ah hs.length ch,.bool o.ab.bP,.string o.ab.body,.bool o.proxy,.string o.text,.string o.user,.string o.pass,.string o.aB,.int .i64 o.cert,.bool o.all,.int .i64 o.n] 33)
 rw[<-pz]at jQ ⊢;clear pz dv;refine(BD.out _ _ _ (oK.out.trans H3.out) jQ).mono ?_;rintro e u4⟨rfl,h4⟩;have H4:=O (H3.out.trans h4);clear h4 jQ BD;cases FI:fU (o,hs)
 case true =>
  clear FI;go_wp2;go_ret;exact⟨rfl,(oK.out.trans H4.out).bQ⟩
 have Nf:=O FI;clear FI;go_wp2_with fail
 refine(Qw.out LS.out _ (oK.out.trans H4.out)).mono ?_;rintro e u5⟨B,pv,rfl,wQ,rk,h5,AF⟩;obtain⟨x,hx⟩:∃x,x=nM (opsL os):=⟨_,rfl⟩;rw[<-hx]at wQ rk;have Nd:=O wQ;have C4:=O rk;have H5:=O (H4.out.trans h5);have HLW:=O AF;have uI:=O (show∀U,Fr ay w U->bg U o hs from fun U hU=>bg.Mt (Qf.out.fr hU) Nf.out);clear wQ rk h5 AF hx Qw LS Nf;have jF:=O (oK.out.trans H5.out);have rA:=O (Qu.out _ H5.out)
 obtain⟨W1,pZ⟩:∃W1,W1=u5.setCell ⟨w.heap.size,0,none⟩ (.int .i64 2):=⟨_,rfl⟩;obtain⟨q2a,q2b,q2c,q2d⟩:=dU Nd.out jF.out (Nat.le_refl _) (Nat.le_refl _) rA.out aO (by decide) (by decide) 0 (.int .i64 2);have q2e:u5.cell? ⟨w.heap.size,0,none⟩=some (.int .i64 o.what):=by have h:=rA.out;simp only[World.cell?,h];rfl
 have q2f:u5.frozen? ⟨w.heap.size,0,none⟩=false:=by have h:=rA.out;simp[World.frozen?,h]
 have q2l:w.heap.size<u5.heap.size:=aj rA.out;rw[<-pZ]at q2a q2b q2c q2d;have JV:=O q2a;have fu:=O q2b
 have rA:=O (show W1.heap[w.heap.size]?=some (.cells #[.int .i64 2,.int .i64 o.ab.part,.bool o.ab.aI.ae,.string o.ab.aI.host,.int .i64 o.ab.aI.port,.bool o.ab.o.ae,.string o.ab.o.host,.int .i64 o.ab.o.port,.string o.ab.path,.string o.ab.query,.string o.ab.method,.slice ah hs.length ch,.bool o.ab.bP,.string o.ab.body,.bool o.proxy,.string o.text,.string o.user,.string o.pass,.string o.aB,.int .i64 o.cert,.bool o.all,.int .i64 o.n] 33 (0,0))from q2c)
 clear q2a q2b q2c q2d;have ai':=O (show W1.heap.size=u5.heap.size by rw[pZ];simp[World.setCell]);have aja:=O (show w.heap.size<u5.heap.size from q2l);have Mz:=O pZ;clear pZ;have yr:=rH;have HL7:=O (by have h:=rA.out;rw[Mz.out]at h;exact h);obtain⟨y6,hy6⟩:∃y6,y6=cV x (({o with what:=2}).bF hs):=⟨_,rfl⟩
 have HD8:=O (show Calls Tryz.prog 17 #[.pointer (some ⟨B,0,none⟩),.agg #[.int .i64 2,.int .i64 o.ab.part,.bool o.ab.aI.ae,.string o.ab.aI.host,.int .i64 o.ab.aI.port,.bool o.ab.o.ae,.string o.ab.o.host,.int .i64 o.ab.o.port,.string o.ab.path,.string o.ab.query,.string o.ab.method,.slice ah hs.length ch,.bool o.ab.bP,.string o.ab.body,.bool o.proxy,.string o.text,.string o.user,.string o.pass,.string o.aB,.int .i64 o.cert,.bool o.all,.int .i64 o.n]] W1 (fun e w'=>e=.returned (.agg #[.int .i64 y6.2.what,.string y6.2.head,.int .i64 y6.2.cert])/\aC w.heap.size W1 B pv y6.1 w')from by
  have h:=ja (o:={o with what:=2}) (hs:=hs) JV.out fu.out C4.out HT.out (bg.qv (uI.out _ fu.out) 2 (by decide) (by decide));rw[aZ (o:={o with what:=2}) (hs:=hs) fX.out]at h;rw[hy6];exact h)
 have HI9:=O (show fW y6.1 by rw[hy6];exact bg.small (bg.qv (uI.out _ fu.out) 2 (by decide) (by decide)) C4.out);have acp:=O hy6;clear hy6
 go_wp2_with (first|((with_reducible refine ag ⟨some 23,_,_,_,_,_⟩ ?_);go_must(refine wpList_load_row rfl 33 (.tmp 3) rfl (w.heap.size) rfl _ #[.int .i64 2,.int .i64 o.ab.part,.bool o.ab.aI.ae,.string o.ab.aI.host,.int .i64 o.ab.aI.port,.bool o.ab.o.ae,.string o.ab.o.host,.int .i64 o.ab.o.port,.string o.ab.path,.string o.ab.query,.string o.ab.method,.slice ah hs.length ch,.bool o.ab.bP,.string o.ab.body,.bool o.proxy,.string o.text,.string o.user,.string o.pass,.string o.aB,.int .i64 o.cert,.bool o.all,.int .i64 o.n] (0,0) _ HL7.out Tryz.underlying33 rfl (by kernel_rfl) ?_))|fail)
 rw[<-Mz.out];clear q2e q2f q2l;refine HD8.out.mono ?_;rintro e CZ⟨rfl,hp⟩;obtain⟨QP,gA,gB,dH⟩:=cb JV.out fu.out (Nat.le_refl _) hp;have asc:=O gA;have ET:=O gB;have Wk:=O (dH _ _ _ rA.out aO (by decide));clear hp gA gB dH HD8;by_cases hq:y6.2.what=3
 case neg =>
  have hd:decide (y6.2.what=3)=false:=decide_eq_false hq;have qE:(y6.2.what==3)=false:=beq_eq_false_iff_ne.2 hq;go_wp2_with fail
  go_ret;exact⟨rfl,ET.out.bQ⟩
 rw[hq];have He:=O hq;clear hq;obtain⟨Ng,Wl⟩:∃Ng,Ng=CZ.setCell ⟨w.heap.size,0,none⟩ (.int .i64 3):=⟨_,rfl⟩;obtain⟨acq,acr,acs,akh⟩:=dU asc.out ET.out (Nat.le_refl _) (Nat.le_refl _) Wk.out aO (by decide) (by decide) 0 (.int .i64 3);have ase:CZ.cell? ⟨w.heap.size,0,none⟩=some (.int .i64 2):=by have h:=Wk.out;simp only[World.cell?,h];rfl
 have asf:CZ.frozen? ⟨w.heap.size,0,none⟩=false:=by have h:=Wk.out;simp[World.frozen?,h]
 have aki:w.heap.size<CZ.heap.size:=aj Wk.out;rw[<-Wl]at acq acr acs akh;have Wm:=O acq;have FE:=O acr
 have MJ:=O (show Ng.heap[w.heap.size]?=some (.cells #[.int .i64 3,.int .i64 o.ab.part,.bool o.ab.aI.ae,.string o.ab.aI.host,.int .i64 o.ab.aI.port,.bool o.ab.o.ae,.string o.ab.o.host,.int .i64 o.ab.o.port,.string o.ab.path,.string o.ab.query,.string o.ab.method,.slice ah hs.length ch,.bool o.ab.bP,.string o.ab.body,.bool o.proxy,.string o.text,.string o.user,.string o.pass,.string o.aB,.int .i64 o.cert,.bool o.all,.int .i64 o.n] 33 (0,0))from acs)
 clear acq acr acs akh;have asg:=O (show Ng.heap.size=CZ.heap.size by rw[Wl];simp[World.setCell]);have ash:=O (show w.heap.size<CZ.heap.size from aki);have akj:=O Wl;clear Wl;go_wp2_with fail
 rw[<-akj.out];clear ase asf aki;clear yr;obtain⟨ya,Ti⟩:∃ya,ya=cV y6.1 (({o with what:=3}:ei).bF hs):=⟨_,rfl⟩;obtain⟨yb,Tj⟩:∃yb,yb=cV ya.1 (({o with what:=3}:ei).bF hs):=⟨_,rfl⟩;have CD:=Pf (w:=x) (o:=({o with what:=2}:ei).bF hs) C4.out.ok rfl (by rw[<-acp.out];exact He.out);rw[<-acp.out]at CD
 change (cV y6.1 (({o with what:=3}:ei).bF hs)).2.what=1/\(cV (cV y6.1 (({o with what:=3}:ei).bF hs)).1 (({o with what:=3}:ei).bF hs)).2.what=2/\1<=((cV (cV y6.1 (({o with what:=3}:ei).bF hs)).1 (({o with what:=3}:ei).bF hs)).1.part o.ab.part.toNat).aH.length at CD;rw[<-Ti, <-Tj]at CD;have aco:=O CD
 have HCA:=O (show∀U pv,Fr ay w U->aR w.heap.size U B pv y6.1->Calls Tryz.prog 17 #[.pointer (some ⟨B,0,none⟩),.agg #[.int .i64 3,.int .i64 o.ab.part,.bool o.ab.aI.ae,.string o.ab.aI.host,.int .i64 o.ab.aI.port,.bool o.ab.o.ae,.string o.ab.o.host,.int .i64 o.ab.o.port,.string o.ab.path,.string o.ab.query,.string o.ab.method,.slice ah hs.length ch,.bool o.ab.bP,.string o.ab.body,.bool o.proxy,.string o.text,.string o.user,.string o.pass,.string o.aB,.int .i64 o.cert,.bool o.all,.int .i64 o.n]] U (fun e w'=>e=.returned (.agg #[.int .i64 ya.2.what,.string ya.2.head,.int .i64 ya.2.cert])/\aC w.heap.size U B pv ya.1 w')from fun U pv hU hw=>by
  have h:=ja (o:={o with what:=3}) (hs:=hs) hw hU HI9.out HT.out (bg.qv (uI.out _ hU) 3 (by decide) (by decide));rw[aZ (o:={o with what:=3}) (hs:=hs) fX.out]at h;rw[Ti];exact h)
 have HIA:=O (show fW ya.1 by rw[Ti];exact bg.small (bg.qv (uI.out _ FE.out) 3 (by decide) (by decide)) HI9.out)
 have QQ:=O (show∀U pv,Fr ay w U->aR w.heap.size U B pv ya.1->Calls Tryz.prog 17 #[.pointer (some ⟨B,0,none⟩),.agg #[.int .i64 3,.int .i64 o.ab.part,.bool o.ab.aI.ae,.string o.ab.aI.host,.int .i64 o.ab.aI.port,.bool o.ab.o.ae,.string o.ab.o.host,.int .i64 o.ab.o.port,.string o.ab.path,.string o.ab.query,.string o.ab.method,.slice ah hs.length ch,.bool o.ab.bP,.string o.ab.body,.bool o.proxy,.string o.text,.string o.user,.string o.pass,.string o.aB,.int .i64 o.cert,.bool o.all,.int .i64 o.n]] U (fun e w'=>e=.returned (.agg #[.int .i64 yb.2.what,.string yb.2.head,.int .i64 yb.2.cert])/\aC w.heap.size U B pv yb.1 w')from fun U pv hU hw=>by
  have h:=ja (o:={o with what:=3}) (hs:=hs) hw hU HIA.out HT.out (bg.qv (uI.out _ hU) 3 (by decide) (by decide));rw[aZ (o:={o with what:=3}) (hs:=hs) fX.out]at h;rw[Tj];exact h)
 have HIB:=O (show fW yb.1 by rw[Tj];exact bg.small (bg.qv (uI.out _ FE.out) 3 (by decide) (by decide)) HIA.out);clear CD Ti Tj
 apply akg (P:=asb w B yb.1 #[.int .i64 3,.int .i64 o.ab.part,.bool o.ab.aI.ae,.string o.ab.aI.host,.int .i64 o.ab.aI.port,.bool o.ab.o.ae,.string o.ab.o.host,.int .i64 o.ab.o.port,.string o.ab.path,.string o.ab.query,.string o.ab.method,.slice ah hs.length ch,.bool o.ab.bP,.string o.ab.body,.bool o.proxy,.string o.text,.string o.user,.string o.pass,.string o.aB,.int .i64 o.cert,.bool o.all,.int .i64 o.n] #[.int .i64 ya.2.what,.string ya.2.head,.int .i64 ya.2.cert] #[.int .i64 yb.2.what,.string yb.2.head,.int .i64 yb.2.cert])
 ·intro hJ;have HJ:=O hJ;clear hJ
  refine wp_region_held_drew (S:=(fun U=>U.heap[w.heap.size]?=some (.cells #[.int .i64 3,.int .i64 o.ab.part,.bool o.ab.aI.ae,.string o.ab.aI.host,.int .i64 o.ab.aI.port,.bool o.ab.o.ae,.string o.ab.o.host,.int .i64 o.ab.o.port,.string o.ab.path,.string o.ab.query,.string o.ab.method,.slice ah hs.length ch,.bool o.ab.bP,.string o.ab.body,.bool o.proxy,.string o.text,.string o.user,.string o.pass,.string o.aB,.int .i64 o.cert,.bool o.all,.int .i64 o.n] 33 (0,0)))) (by kernel_rfl) (MJ.out) ?_
  intro cW;refine tk 0 ⟨some 28,_,_,_,_,_⟩ (v:=?_) rfl (by rfl) ?hy ?_
  case hy=>(intro w hSw;(try dsimp only at hSw);go_simp<;>with_reducible rfl)
  try simp only[Act.put,sA,sB,sC]
  refine wpAnyH_take (i:=1) (oi:=⟨some 29,_,_,_,_,_⟩) rfl (by kernel_rfl) (by kernel_rfl) (by kernel_rfl) (fun _ _ _ h=>h) (yieldsIf_load_mid (by rfl) 33 (.tmp 3) rfl w.heap.size 0 rfl [.int .i64 3,.int .i64 o.ab.part,.bool o.ab.aI.ae,.string o.ab.aI.host,.int .i64 o.ab.aI.port,.bool o.ab.o.ae,.string o.ab.o.host,.int .i64 o.ab.o.port,.string o.ab.path,.string o.ab.query,.string o.ab.method,.slice ah hs.length ch,.bool o.ab.bP,.string o.ab.body,.bool o.proxy,.string o.text,.string o.user,.string o.pass,.string o.aB,.int .i64 o.cert,.bool o.all,.int .i64 o.n] _ (fun U hU=>vw hU) Tryz.underlying33 rfl (by kernel_rfl)) (by assumption) ?_
  try simp only[Act.put,sA,sB,sC]
  refine tk 3 ⟨some 31,_,_,_,_,_⟩ (v:=?_) rfl (by rfl) ?hy ?_
  case hy=>(intro w hSw;(try dsimp only at hSw);go_simp<;>with_reducible rfl)
  try simp only[Act.put,sA,sB,sC]
  refine wpAnyH_take (i:=4) (oi:=⟨some 32,_,_,_,_,_⟩) rfl (by kernel_rfl) (by kernel_rfl) (by kernel_rfl) (fun _ _ _ h=>h) (yieldsIf_load_mid (by rfl) 33 (.tmp 3) rfl w.heap.size 0 rfl [.int .i64 3,.int .i64 o.ab.part,.bool o.ab.aI.ae,.string o.ab.aI.host,.int .i64 o.ab.aI.port,.bool o.ab.o.ae,.string o.ab.o.host,.int .i64 o.ab.o.port,.string o.ab.path,.string o.ab.query,.string o.ab.method,.slice ah hs.length ch,.bool o.ab.bP,.string o.ab.body,.bool o.proxy,.string o.text,.string o.user,.string o.pass,.string o.aB,.int .i64 o.cert,.bool o.all,.int .i64 o.n] _ (fun U hU=>vw hU) Tryz.underlying33 rfl (by kernel_rfl)) (by assumption) ?_
  try simp only[Act.put,sA,sB,sC]
  refine wpAnyH_ready (rs:=[2,6,7]) (by kernel_rfl) (by simp) ?_;refine AllReadyH.cons rfl (fun K hK=>?_) (AllReadyH.cons rfl (fun K hK=>?_) (AllReadyH.cons rfl (fun K hK=>?_) AllReadyH.nil))
  ·go_simp;refine(HCA.out _ QP (Fr.drew FE.out) (Wm.out.bd (Fr.drew (Fr.refl ay _)))).mono ?_;rintro e Yc⟨rfl,hp⟩;obtain⟨QR,gA,gB,dH⟩:=cb (Wm.out.bd (Fr.drew (Fr.refl ay _))) (Fr.drew FE.out) (Nat.le_refl _) hp;have Wn:=O gA;have MK:=O gB;have ML:=O (dH _ _ _ MJ.out aO (by decide));clear hp gA gB dH;refine hK.out _ _ ML.out ?_;intro ct;clear hK cW K;have cW:=ct;clear ct
   try simp only[Act.put,sA,sB,sC]
   refine wpAnyH_ready (rs:=[5,6,7]) (by kernel_rfl) (by simp) ?_;refine AllReadyH.cons rfl (fun K hK=>?_) (AllReadyH.cons rfl (fun K hK=>?_) (AllReadyH.cons rfl (fun K hK=>?_) AllReadyH.nil))
   ·go_simp;refine(QQ.out _ QR MK.out Wn.out).mono ?_;rintro e Yd⟨rfl,hp⟩;obtain⟨ayy,gA,gB,dH⟩:=cb Wn.out MK.out (Nat.le_refl _) hp;have akk:=O gA;have Wo:=O gB;have FF:=O (dH _ _ _ ML.out aO (by decide));clear hp gA gB dH;refine hK.out _ _ FF.out ?_;intro ct;clear hK cW K;have cW:=ct;clear ct
    try simp only[Act.put,sA,sB,sC]
    refine wpAnyH_ready (rs:=[6,7]) (by kernel_rfl) (by simp) ?_;refine AllReadyH.cons rfl (fun K hK=>?_) (AllReadyH.cons rfl (fun K hK=>?_) AllReadyH.nil)
    ·go_simp;obtain⟨n6,hne⟩:∃n,n=Yd.heap.size:=⟨_,rfl⟩;obtain⟨MM,cY⟩:∃W,W=(Yd.alloc (.cells #[.int .i64 0,.string ⟨#[]⟩,.int .i64 0] 39)):=⟨_,rfl⟩;have bT:Fr ay Yd MM:=by rw[cY];exact((Fr.refl _ _).alloc _)
     have ix:MM.heap[n6]?=some (.cells #[.int .i64 0,.string ⟨#[]⟩,.int .i64 0] 39 (0,0)):=by rw[cY,hne];exact af Yd _
     have akl:=O (akk.out.bd bT);have Ye:=O (Wo.out.trans bT);have akm:=O (show w.heap.size<n6 by rw[hne];exact aj FF.out);have Yf:=O (show w.heap.size<=n6 by rw[hne];exact Wo.out.size);have QS:=O (bT.keep FF.out (fun h=>h));have Yg:=O ix;rw[<-cY, <-hne];clear cY hne bT ix;refine hK.out _ _ QS.out ?_;intro ct;clear hK cW K;have cW:=ct;clear ct
     try simp only[Act.put,sA,sB,sC]
     refine wpAnyH_ready (rs:=[7]) (by kernel_rfl) (by simp) ?_;refine AllReadyH.cons rfl (fun K hK=>?_) AllReadyH.nil;go_simp;obtain⟨n7,hne⟩:∃n,n=MM.heap.size:=⟨_,rfl⟩;obtain⟨acu,cY⟩:∃W,W=(MM.alloc (.cells #[.int .i64 0,.string ⟨#[]⟩,.int .i64 0] 39)):=⟨_,rfl⟩;have bT:Fr ay MM acu:=by rw[cY];exact((Fr.refl _ _).alloc _)
     have ix:acu.heap[n7]?=some (.cells #[.int .i64 0,.string ⟨#[]⟩,.int .i64 0] 39 (0,0)):=by rw[cY,hne];exact af MM _
     have akn:=O (akl.out.bd bT);have ako:=O (Ye.out.trans bT);have akp:=O (show w.heap.size<n7 by rw[hne];exact aj QS.out);have Yh:=O (show n6<n7 by rw[hne];exact aj Yg.out);have Yi:=O (show w.heap.size<=n7 by rw[hne];exact Ye.out.size);have Yj:=O (bT.keep QS.out (fun h=>h));have Yk:=O (bT.keep Yg.out (fun h=>h));have akq:=O ix;rw[<-cY, <-hne];clear cY hne bT ix;refine hK.out _ _ Yj.out ?_;intro ct
     clear hK cW K;have cW:=ct;clear ct
     try simp only[Act.put,sA,sB,sC]
     refine wpAnyH_ready (rs:=[8]) (by kernel_rfl) (by simp) ?_;refine AllReadyH.cons rfl (fun K hK=>?_) AllReadyH.nil;refine aJ rfl 39 (.tmp 6) (.tmp 30) rfl n6 #[.int .i64 ya.2.what,.string ya.2.head,.int .i64 ya.2.cert] rfl rfl 39 #[.int .i64 0,.string ⟨#[]⟩,.int .i64 0] Yk.out (az _ rfl) rfl (by simp[Value.oneCell']) ?_
     obtain⟨qa,qb,qc,qd⟩:=cj akn.out ako.out Yf.out Yf.out Yk.out aD (by decide) (by decide) #[.int .i64 ya.2.what,.string ya.2.head,.int .i64 ya.2.cert];obtain⟨asi,ij⟩:∃W,W=acu.setRow n6 #[.int .i64 ya.2.what,.string ya.2.head,.int .i64 ya.2.cert]:=⟨_,rfl⟩;rw[<-ij]at qa qb qc qd ⊢;clear ij;have akr:=O qa;have aks:=O qb;have Yl:=O (qd _ _ (Nat.ne_of_lt akm.out) Yj.out)
     have Ym:=O (qd _ _ (Nat.ne_of_gt Yh.out) akq.out);have akt:=O qc;clear qa qb qc qd;refine hK.out _ _ Yl.out ?_;intro ct;clear hK cW K;have cW:=ct;clear ct
     try simp only[Act.put,sA,sB,sC]
     refine wpAnyH_ready (rs:=[9]) (by kernel_rfl) (by simp) ?_;refine AllReadyH.cons rfl (fun K hK=>?_) AllReadyH.nil;refine aJ rfl 39 (.tmp 7) (.tmp 33) rfl n7 #[.int .i64 yb.2.what,.string yb.2.head,.int .i64 yb.2.cert] rfl rfl 39 #[.int .i64 0,.string ⟨#[]⟩,.int .i64 0] Ym.out (az _ rfl) rfl (by simp[Value.oneCell']) ?_
     obtain⟨qa,qb,qc,qd⟩:=cj akr.out aks.out Yi.out Yi.out Ym.out aD (by decide) (by decide) #[.int .i64 yb.2.what,.string yb.2.head,.int .i64 yb.2.cert];obtain⟨asj,ij⟩:∃W,W=asi.setRow n7 #[.int .i64 yb.2.what,.string yb.2.head,.int .i64 yb.2.cert]:=⟨_,rfl⟩;rw[<-ij]at qa qb qc qd ⊢;clear ij;have aku:=O qa;have akv:=O qb;have Yn:=O (qd _ _ (Nat.ne_of_lt akp.out) Yl.out)
     have akw:=O (qd _ _ (Nat.ne_of_lt Yh.out) akt.out);have akx:=O qc;clear qa qb qc qd;refine hK.out _ _ Yn.out ?_;intro ct;clear hK cW K;have cW:=ct;clear ct
     try simp only[Act.put,sA,sB,sC]
     clear cW;refine wpAnyH_done (by kernel_rfl) ?_ _;exact HJ.out n6 n7 asj ⟨⟨_,aku.out⟩,akv.out,Yn.out,akw.out,akx.out⟩
    ·go_simp;obtain⟨n7,hne⟩:∃n,n=Yd.heap.size:=⟨_,rfl⟩;obtain⟨MN,cY⟩:∃W,W=(Yd.alloc (.cells #[.int .i64 0,.string ⟨#[]⟩,.int .i64 0] 39)):=⟨_,rfl⟩;have bT:Fr ay Yd MN:=by rw[cY];exact((Fr.refl _ _).alloc _)
     have ix:MN.heap[n7]?=some (.cells #[.int .i64 0,.string ⟨#[]⟩,.int .i64 0] 39 (0,0)):=by rw[cY,hne];exact af Yd _
     have aky:=O (akk.out.bd bT);have Yo:=O (Wo.out.trans bT);have akz:=O (show w.heap.size<n7 by rw[hne];exact aj FF.out);have Yp:=O (show w.heap.size<=n7 by rw[hne];exact Wo.out.size);have QT:=O (bT.keep FF.out (fun h=>h));have Yq:=O ix;rw[<-cY, <-hne];clear cY hne bT ix;refine hK.out _ _ QT.out ?_;intro ct;clear hK cW K;have cW:=ct;clear ct
     try simp only[Act.put,sA,sB,sC]
     refine wpAnyH_ready (rs:=[6]) (by kernel_rfl) (by simp) ?_;refine AllReadyH.cons rfl (fun K hK=>?_) AllReadyH.nil;go_simp;obtain⟨n6,hne⟩:∃n,n=MN.heap.size:=⟨_,rfl⟩;obtain⟨acv,cY⟩:∃W,W=(MN.alloc (.cells #[.int .i64 0,.string ⟨#[]⟩,.int .i64 0] 39)):=⟨_,rfl⟩;have bT:Fr ay MN acv:=by rw[cY];exact((Fr.refl _ _).alloc _)
     have ix:acv.heap[n6]?=some (.cells #[.int .i64 0,.string ⟨#[]⟩,.int .i64 0] 39 (0,0)):=by rw[cY,hne];exact af MN _
     have akA:=O (aky.out.bd bT);have akB:=O (Yo.out.trans bT);have akC:=O (show w.heap.size<n6 by rw[hne];exact aj QT.out);have Yr:=O (show n7<n6 by rw[hne];exact aj Yq.out);have Ys:=O (show w.heap.size<=n6 by rw[hne];exact Yo.out.size);have Yt:=O (bT.keep QT.out (fun h=>h));have akD:=O (bT.keep Yq.out (fun h=>h));have Yu:=O ix;rw[<-cY, <-hne];clear cY hne bT ix;refine hK.out _ _ Yt.out ?_;intro ct
     clear hK cW K;have cW:=ct;clear ct
     try simp only[Act.put,sA,sB,sC]
     refine wpAnyH_ready (rs:=[8]) (by kernel_rfl) (by simp) ?_;refine AllReadyH.cons rfl (fun K hK=>?_) AllReadyH.nil;refine aJ rfl 39 (.tmp 6) (.tmp 30) rfl n6 #[.int .i64 ya.2.what,.string ya.2.head,.int .i64 ya.2.cert] rfl rfl 39 #[.int .i64 0,.string ⟨#[]⟩,.int .i64 0] Yu.out (az _ rfl) rfl (by simp[Value.oneCell']) ?_
     obtain⟨qa,qb,qc,qd⟩:=cj akA.out akB.out Ys.out Ys.out Yu.out aD (by decide) (by decide) #[.int .i64 ya.2.what,.string ya.2.head,.int .i64 ya.2.cert];obtain⟨asl,ij⟩:∃W,W=acv.setRow n6 #[.int .i64 ya.2.what,.string ya.2.head,.int .i64 ya.2.cert]:=⟨_,rfl⟩;rw[<-ij]at qa qb qc qd ⊢;clear ij;have akE:=O qa;have akF:=O qb;have Yv:=O (qd _ _ (Nat.ne_of_lt akC.out) Yt.out)
     have Yw:=O (qd _ _ (Nat.ne_of_lt Yr.out) akD.out);have akG:=O qc;clear qa qb qc qd;refine hK.out _ _ Yv.out ?_;intro ct;clear hK cW K;have cW:=ct;clear ct
     try simp only[Act.put,sA,sB,sC]
     refine wpAnyH_ready (rs:=[9]) (by kernel_rfl) (by simp) ?_;refine AllReadyH.cons rfl (fun K hK=>?_) AllReadyH.nil;refine aJ rfl 39 (.tmp 7) (.tmp 33) rfl n7 #[.int .i64 yb.2.what,.string yb.2.head,.int .i64 yb.2.cert] rfl rfl 39 #[.int .i64 0,.string ⟨#[]⟩,.int .i64 0] Yw.out (az _ rfl) rfl (by simp[Value.oneCell']) ?_
     obtain⟨qa,qb,qc,qd⟩:=cj akE.out akF.out Yp.out Yp.out Yw.out aD (by decide) (by decide) #[.int .i64 yb.2.what,.string yb.2.head,.int .i64 yb.2.cert];obtain⟨asm,ij⟩:∃W,W=asl.setRow n7 #[.int .i64 yb.2.what,.string yb.2.head,.int .i64 yb.2.cert]:=⟨_,rfl⟩;rw[<-ij]at qa qb qc qd ⊢;clear ij;have akH:=O qa;have akI:=O qb;have Yx:=O (qd _ _ (Nat.ne_of_lt akz.out) Yv.out)
     have akJ:=O (qd _ _ (Nat.ne_of_gt Yr.out) akG.out);have akK:=O qc;clear qa qb qc qd;refine hK.out _ _ Yx.out ?_;intro ct;clear hK cW K;have cW:=ct;clear ct
     try simp only[Act.put,sA,sB,sC]
     clear cW;refine wpAnyH_done (by kernel_rfl) ?_ _;exact HJ.out n6 n7 asm ⟨⟨_,akH.out⟩,akI.out,Yx.out,akJ.out,akK.out⟩
   ·go_simp;obtain⟨n6,hne⟩:∃n,n=Yc.heap.size:=⟨_,rfl⟩;obtain⟨MO,cY⟩:∃W,W=(Yc.alloc (.cells #[.int .i64 0,.string ⟨#[]⟩,.int .i64 0] 39)):=⟨_,rfl⟩;have bT:Fr ay Yc MO:=by rw[cY];exact((Fr.refl _ _).alloc _)
    have ix:MO.heap[n6]?=some (.cells #[.int .i64 0,.string ⟨#[]⟩,.int .i64 0] 39 (0,0)):=by rw[cY,hne];exact af Yc _
    have QU:=O (Wn.out.bd bT);have Ka:=O (MK.out.trans bT);have Yy:=O (show w.heap.size<n6 by rw[hne];exact aj ML.out);have Kb:=O (show w.heap.size<=n6 by rw[hne];exact MK.out.size);have Kc:=O (bT.keep ML.out (fun h=>h));have QV:=O ix;rw[<-cY, <-hne];clear cY hne bT ix;refine hK.out _ _ Kc.out ?_;intro ct;clear hK cW K;have cW:=ct;clear ct
    try simp only[Act.put,sA,sB,sC]
    refine wpAnyH_ready (rs:=[5,7]) (by kernel_rfl) (by simp) ?_;refine AllReadyH.cons rfl (fun K hK=>?_) (AllReadyH.cons rfl (fun K hK=>?_) AllReadyH.nil)
    ·go_simp;refine(QQ.out _ QR Ka.out QU.out).mono ?_;rintro e Wp⟨rfl,hp⟩;obtain⟨avr,gA,gB,dH⟩:=cb QU.out Ka.out (Nat.le_refl _) hp;have akL:=O gA;have Yz:=O gB;have QW:=O (dH _ _ _ Kc.out aO (by decide));have YA:=O (dH _ _ _ QV.out aD (by decide));clear hp gA gB dH;refine hK.out _ _ QW.out ?_;intro ct;clear hK cW K;have cW:=ct;clear ct
     try simp only[Act.put,sA,sB,sC]
     refine wpAnyH_ready (rs:=[7]) (by kernel_rfl) (by simp) ?_;refine AllReadyH.cons rfl (fun K hK=>?_) AllReadyH.nil;go_simp;obtain⟨n7,hne⟩:∃n,n=Wp.heap.size:=⟨_,rfl⟩;obtain⟨acw,cY⟩:∃W,W=(Wp.alloc (.cells #[.int .i64 0,.string ⟨#[]⟩,.int .i64 0] 39)):=⟨_,rfl⟩;have bT:Fr ay Wp acw:=by rw[cY];exact((Fr.refl _ _).alloc _)
     have ix:acw.heap[n7]?=some (.cells #[.int .i64 0,.string ⟨#[]⟩,.int .i64 0] 39 (0,0)):=by rw[cY,hne];exact af Wp _
     have akM:=O (akL.out.bd bT);have akN:=O (Yz.out.trans bT);have akO:=O (show w.heap.size<n7 by rw[hne];exact aj QW.out);have YB:=O (show n6<n7 by rw[hne];exact aj YA.out);have YC:=O (show w.heap.size<=n7 by rw[hne];exact Yz.out.size);have YD:=O (bT.keep QW.out (fun h=>h));have YE:=O (bT.keep YA.out (fun h=>h));have akP:=O ix;rw[<-cY, <-hne];clear cY hne bT ix;refine hK.out _ _ YD.out ?_;intro ct
     clear hK cW K;have cW:=ct;clear ct
     try simp only[Act.put,sA,sB,sC]
     refine wpAnyH_ready (rs:=[8]) (by kernel_rfl) (by simp) ?_;refine AllReadyH.cons rfl (fun K hK=>?_) AllReadyH.nil;refine aJ rfl 39 (.tmp 6) (.tmp 30) rfl n6 #[.int .i64 ya.2.what,.string ya.2.head,.int .i64 ya.2.cert] rfl rfl 39 #[.int .i64 0,.string ⟨#[]⟩,.int .i64 0] YE.out (az _ rfl) rfl (by simp[Value.oneCell']) ?_
     obtain⟨qa,qb,qc,qd⟩:=cj akM.out akN.out Kb.out Kb.out YE.out aD (by decide) (by decide) #[.int .i64 ya.2.what,.string ya.2.head,.int .i64 ya.2.cert];obtain⟨asn,ij⟩:∃W,W=acw.setRow n6 #[.int .i64 ya.2.what,.string ya.2.head,.int .i64 ya.2.cert]:=⟨_,rfl⟩;rw[<-ij]at qa qb qc qd ⊢;clear ij;have akQ:=O qa;have akR:=O qb;have YF:=O (qd _ _ (Nat.ne_of_lt Yy.out) YD.out)
     have YG:=O (qd _ _ (Nat.ne_of_gt YB.out) akP.out);have akS:=O qc;clear qa qb qc qd;refine hK.out _ _ YF.out ?_;intro ct;clear hK cW K;have cW:=ct;clear ct
     try simp only[Act.put,sA,sB,sC]
     refine wpAnyH_ready (rs:=[9]) (by kernel_rfl) (by simp) ?_;refine AllReadyH.cons rfl (fun K hK=>?_) AllReadyH.nil;refine aJ rfl 39 (.tmp 7) (.tmp 33) rfl n7 #[.int .i64 yb.2.what,.string yb.2.head,.int .i64 yb.2.cert] rfl rfl 39 #[.int .i64 0,.string ⟨#[]⟩,.int .i64 0] YG.out (az _ rfl) rfl (by simp[Value.oneCell']) ?_
     obtain⟨qa,qb,qc,qd⟩:=cj akQ.out akR.out YC.out YC.out YG.out aD (by decide) (by decide) #[.int .i64 yb.2.what,.string yb.2.head,.int .i64 yb.2.cert];obtain⟨aso,ij⟩:∃W,W=asn.setRow n7 #[.int .i64 yb.2.what,.string yb.2.head,.int .i64 yb.2.cert]:=⟨_,rfl⟩;rw[<-ij]at qa qb qc qd ⊢;clear ij;have akT:=O qa;have akU:=O qb;have YH:=O (qd _ _ (Nat.ne_of_lt akO.out) YF.out)
     have akV:=O (qd _ _ (Nat.ne_of_lt YB.out) akS.out);have acx:=O qc;clear qa qb qc qd;refine hK.out _ _ YH.out ?_;intro ct;clear hK cW K;have cW:=ct;clear ct
     try simp only[Act.put,sA,sB,sC]
     clear cW;refine wpAnyH_done (by kernel_rfl) ?_ _;exact HJ.out n6 n7 aso ⟨⟨_,akT.out⟩,akU.out,YH.out,akV.out,acx.out⟩
    ·go_simp;obtain⟨n7,hne⟩:∃n,n=MO.heap.size:=⟨_,rfl⟩;obtain⟨YI,cY⟩:∃W,W=(MO.alloc (.cells #[.int .i64 0,.string ⟨#[]⟩,.int .i64 0] 39)):=⟨_,rfl⟩;have bT:Fr ay MO YI:=by rw[cY];exact((Fr.refl _ _).alloc _)
     have ix:YI.heap[n7]?=some (.cells #[.int .i64 0,.string ⟨#[]⟩,.int .i64 0] 39 (0,0)):=by rw[cY,hne];exact af MO _
     have QX:=O (QU.out.bd bT);have QY:=O (Ka.out.trans bT);have acy:=O (show w.heap.size<n7 by rw[hne];exact aj Kc.out);have QZ:=O (show n6<n7 by rw[hne];exact aj QV.out);have Q0:=O (show w.heap.size<=n7 by rw[hne];exact Ka.out.size);have Q2:=O (bT.keep Kc.out (fun h=>h));have acz:=O (bT.keep QV.out (fun h=>h));have acA:=O ix;rw[<-cY, <-hne];clear cY hne bT ix;refine hK.out _ _ Q2.out ?_;intro ct
     clear hK cW K;have cW:=ct;clear ct
     try simp only[Act.put,sA,sB,sC]
     refine wpAnyH_ready (rs:=[5]) (by kernel_rfl) (by simp) ?_;refine AllReadyH.cons rfl (fun K hK=>?_) AllReadyH.nil;go_simp;refine(QQ.out _ QR QY.out QX.out).mono ?_;rintro e akW⟨rfl,hp⟩;obtain⟨asp,gA,gB,dH⟩:=cb QX.out QY.out (Nat.le_refl _) hp;have acB:=O gA;have acC:=O gB;have Q3:=O (dH _ _ _ Q2.out aO (by decide));have Q4:=O (dH _ _ _ acz.out aD (by decide))
     have acD:=O (dH _ _ _ acA.out aD (by decide));clear hp gA gB dH;refine hK.out _ _ Q3.out ?_;intro ct;clear hK cW K;have cW:=ct;clear ct
     try simp only[Act.put,sA,sB,sC]
     refine wpAnyH_ready (rs:=[8]) (by kernel_rfl) (by simp) ?_;refine AllReadyH.cons rfl (fun K hK=>?_) AllReadyH.nil;refine aJ rfl 39 (.tmp 6) (.tmp 30) rfl n6 #[.int .i64 ya.2.what,.string ya.2.head,.int .i64 ya.2.cert] rfl rfl 39 #[.int .i64 0,.string ⟨#[]⟩,.int .i64 0] Q4.out (az _ rfl) rfl (by simp[Value.oneCell']) ?_
     obtain⟨qa,qb,qc,qd⟩:=cj acB.out acC.out Kb.out Kb.out Q4.out aD (by decide) (by decide) #[.int .i64 ya.2.what,.string ya.2.head,.int .i64 ya.2.cert];obtain⟨akX,ij⟩:∃W,W=akW.setRow n6 #[.int .i64 ya.2.what,.string ya.2.head,.int .i64 ya.2.cert]:=⟨_,rfl⟩;rw[<-ij]at qa qb qc qd ⊢;clear ij;have acE:=O qa;have acF:=O qb;have Q5:=O (qd _ _ (Nat.ne_of_lt Yy.out) Q3.out)
     have Q7:=O (qd _ _ (Nat.ne_of_gt QZ.out) acD.out);have acG:=O qc;clear qa qb qc qd;refine hK.out _ _ Q5.out ?_;intro ct;clear hK cW K;have cW:=ct;clear ct
     try simp only[Act.put,sA,sB,sC]
     refine wpAnyH_ready (rs:=[9]) (by kernel_rfl) (by simp) ?_;refine AllReadyH.cons rfl (fun K hK=>?_) AllReadyH.nil;refine aJ rfl 39 (.tmp 7) (.tmp 33) rfl n7 #[.int .i64 yb.2.what,.string yb.2.head,.int .i64 yb.2.cert] rfl rfl 39 #[.int .i64 0,.string ⟨#[]⟩,.int .i64 0] Q7.out (az _ rfl) rfl (by simp[Value.oneCell']) ?_
     obtain⟨qa,qb,qc,qd⟩:=cj acE.out acF.out Q0.out Q0.out Q7.out aD (by decide) (by decide) #[.int .i64 yb.2.what,.string yb.2.head,.int .i64 yb.2.cert];obtain⟨akY,ij⟩:∃W,W=akX.setRow n7 #[.int .i64 yb.2.what,.string yb.2.head,.int .i64 yb.2.cert]:=⟨_,rfl⟩;rw[<-ij]at qa qb qc qd ⊢;clear ij;have acH:=O qa;have acI:=O qb;have Q8:=O (qd _ _ (Nat.ne_of_lt acy.out) Q5.out)
     have acJ:=O (qd _ _ (Nat.ne_of_lt QZ.out) acG.out);have acK:=O qc;clear qa qb qc qd;refine hK.out _ _ Q8.out ?_;intro ct;clear hK cW K;have cW:=ct;clear ct
     try simp only[Act.put,sA,sB,sC]
     clear cW;refine wpAnyH_done (by kernel_rfl) ?_ _;exact HJ.out n6 n7 akY ⟨⟨_,acH.out⟩,acI.out,Q8.out,acJ.out,acK.out⟩
   ·go_simp;obtain⟨n7,hne⟩:∃n,n=Yc.heap.size:=⟨_,rfl⟩;obtain⟨Bn,cY⟩:∃W,W=(Yc.alloc (.cells #[.int .i64 0,.string ⟨#[]⟩,.int .i64 0] 39)):=⟨_,rfl⟩;have bT:Fr ay Yc Bn:=by rw[cY];exact((Fr.refl _ _).alloc _)
    have ix:Bn.heap[n7]?=some (.cells #[.int .i64 0,.string ⟨#[]⟩,.int .i64 0] 39 (0,0)):=by rw[cY,hne];exact af Yc _
    have Il:=O (Wn.out.bd bT);have CG:=O (MK.out.trans bT);have Q9:=O (show w.heap.size<n7 by rw[hne];exact aj ML.out);have CH:=O (show w.heap.size<=n7 by rw[hne];exact MK.out.size);have CI:=O (bT.keep ML.out (fun h=>h));have Im:=O ix;rw[<-cY, <-hne];clear cY hne bT ix;refine hK.out _ _ CI.out ?_;intro ct;clear hK cW K;have cW:=ct;clear ct
    try simp only[Act.put,sA,sB,sC]
    refine wpAnyH_ready (rs:=[5,6]) (by kernel_rfl) (by simp) ?_;refine AllReadyH.cons rfl (fun K hK=>?_) (AllReadyH.cons rfl (fun K hK=>?_) AllReadyH.nil)
    ·go_simp;refine(QQ.out _ QR CG.out Il.out).mono ?_;rintro e Kd⟨rfl,hp⟩;obtain⟨asq,gA,gB,dH⟩:=cb Il.out CG.out (Nat.le_refl _) hp;have acL:=O gA;have Q_:=O gB;have Ip:=O (dH _ _ _ CI.out aO (by decide));have Q':=O (dH _ _ _ Im.out aD (by decide));clear hp gA gB dH;refine hK.out _ _ Ip.out ?_;intro ct;clear hK cW K;have cW:=ct;clear ct
     try simp only[Act.put,sA,sB,sC]
     refine wpAnyH_ready (rs:=[6]) (by kernel_rfl) (by simp) ?_;refine AllReadyH.cons rfl (fun K hK=>?_) AllReadyH.nil;go_simp;obtain⟨n6,hne⟩:∃n,n=Kd.heap.size:=⟨_,rfl⟩;obtain⟨Ra,cY⟩:∃W,W=(Kd.alloc (.cells #[.int .i64 0,.string ⟨#[]⟩,.int .i64 0] 39)):=⟨_,rfl⟩;have bT:Fr ay Kd Ra:=by rw[cY];exact((Fr.refl _ _).alloc _)
     have ix:Ra.heap[n6]?=some (.cells #[.int .i64 0,.string ⟨#[]⟩,.int .i64 0] 39 (0,0)):=by rw[cY,hne];exact af Kd _
     have acM:=O (acL.out.bd bT);have acN:=O (Q_.out.trans bT);have acO:=O (show w.heap.size<n6 by rw[hne];exact aj Ip.out);have Rb:=O (show n7<n6 by rw[hne];exact aj Q'.out);have Rc:=O (show w.heap.size<=n6 by rw[hne];exact Q_.out.size);have Re:=O (bT.keep Ip.out (fun h=>h));have acP:=O (bT.keep Q'.out (fun h=>h));have Rf:=O ix;rw[<-cY, <-hne];clear cY hne bT ix;refine hK.out _ _ Re.out ?_;intro ct
     clear hK cW K;have cW:=ct;clear ct
     try simp only[Act.put,sA,sB,sC]
     refine wpAnyH_ready (rs:=[8]) (by kernel_rfl) (by simp) ?_;refine AllReadyH.cons rfl (fun K hK=>?_) AllReadyH.nil;refine aJ rfl 39 (.tmp 6) (.tmp 30) rfl n6 #[.int .i64 ya.2.what,.string ya.2.head,.int .i64 ya.2.cert] rfl rfl 39 #[.int .i64 0,.string ⟨#[]⟩,.int .i64 0] Rf.out (az _ rfl) rfl (by simp[Value.oneCell']) ?_
     obtain⟨qa,qb,qc,qd⟩:=cj acM.out acN.out Rc.out Rc.out Rf.out aD (by decide) (by decide) #[.int .i64 ya.2.what,.string ya.2.head,.int .i64 ya.2.cert];obtain⟨akZ,ij⟩:∃W,W=Ra.setRow n6 #[.int .i64 ya.2.what,.string ya.2.head,.int .i64 ya.2.cert]:=⟨_,rfl⟩;rw[<-ij]at qa qb qc qd ⊢;clear ij;have acQ:=O qa;have acR:=O qb;have Rg:=O (qd _ _ (Nat.ne_of_lt acO.out) Re.out)
     have Rh:=O (qd _ _ (Nat.ne_of_lt Rb.out) acP.out);have acS:=O qc;clear qa qb qc qd;refine hK.out _ _ Rg.out ?_;intro ct;clear hK cW K;have cW:=ct;clear ct
     try simp only[Act.put,sA,sB,sC]
     refine wpAnyH_ready (rs:=[9]) (by kernel_rfl) (by simp) ?_;refine AllReadyH.cons rfl (fun K hK=>?_) AllReadyH.nil;refine aJ rfl 39 (.tmp 7) (.tmp 33) rfl n7 #[.int .i64 yb.2.what,.string yb.2.head,.int .i64 yb.2.cert] rfl rfl 39 #[.int .i64 0,.string ⟨#[]⟩,.int .i64 0] Rh.out (az _ rfl) rfl (by simp[Value.oneCell']) ?_
     obtain⟨qa,qb,qc,qd⟩:=cj acQ.out acR.out CH.out CH.out Rh.out aD (by decide) (by decide) #[.int .i64 yb.2.what,.string yb.2.head,.int .i64 yb.2.cert];obtain⟨ak0,ij⟩:∃W,W=akZ.setRow n7 #[.int .i64 yb.2.what,.string yb.2.head,.int .i64 yb.2.cert]:=⟨_,rfl⟩;rw[<-ij]at qa qb qc qd ⊢;clear ij;have acT:=O qa;have acU:=O qb;have Ri:=O (qd _ _ (Nat.ne_of_lt Q9.out) Rg.out)
     have acV:=O (qd _ _ (Nat.ne_of_gt Rb.out) acS.out);have acW:=O qc;clear qa qb qc qd;refine hK.out _ _ Ri.out ?_;intro ct;clear hK cW K;have cW:=ct;clear ct
     try simp only[Act.put,sA,sB,sC]
     clear cW;refine wpAnyH_done (by kernel_rfl) ?_ _;exact HJ.out n6 n7 ak0 ⟨⟨_,acT.out⟩,acU.out,Ri.out,acV.out,acW.out⟩
    ·go_simp;obtain⟨n6,hne⟩:∃n,n=Bn.heap.size:=⟨_,rfl⟩;obtain⟨YJ,cY⟩:∃W,W=(Bn.alloc (.cells #[.int .i64 0,.string ⟨#[]⟩,.int .i64 0] 39)):=⟨_,rfl⟩;have bT:Fr ay Bn YJ:=by rw[cY];exact((Fr.refl _ _).alloc _)
     have ix:YJ.heap[n6]?=some (.cells #[.int .i64 0,.string ⟨#[]⟩,.int .i64 0] 39 (0,0)):=by rw[cY,hne];exact af Bn _
     have Rj:=O (Il.out.bd bT);have Rk:=O (CG.out.trans bT);have acX:=O (show w.heap.size<n6 by rw[hne];exact aj CI.out);have Rl:=O (show n7<n6 by rw[hne];exact aj Im.out);have Rm:=O (show w.heap.size<=n6 by rw[hne];exact CG.out.size);have Rn:=O (bT.keep CI.out (fun h=>h));have acY:=O (bT.keep Im.out (fun h=>h));have acZ:=O ix;rw[<-cY, <-hne];clear cY hne bT ix;refine hK.out _ _ Rn.out ?_;intro ct
     clear hK cW K;have cW:=ct;clear ct
     try simp only[Act.put,sA,sB,sC]
     refine wpAnyH_ready (rs:=[5]) (by kernel_rfl) (by simp) ?_;refine AllReadyH.cons rfl (fun K hK=>?_) AllReadyH.nil;go_simp;refine(QQ.out _ QR Rk.out Rj.out).mono ?_;rintro e ak1⟨rfl,hp⟩;obtain⟨asr,gA,gB,dH⟩:=cb Rj.out Rk.out (Nat.le_refl _) hp;have ac0:=O gA;have ac1:=O gB;have Ro:=O (dH _ _ _ Rn.out aO (by decide));have ac2:=O (dH _ _ _ acY.out aD (by decide))
     have Rp:=O (dH _ _ _ acZ.out aD (by decide));clear hp gA gB dH;refine hK.out _ _ Ro.out ?_;intro ct;clear hK cW K;have cW:=ct;clear ct
     try simp only[Act.put,sA,sB,sC]
     refine wpAnyH_ready (rs:=[8]) (by kernel_rfl) (by simp) ?_;refine AllReadyH.cons rfl (fun K hK=>?_) AllReadyH.nil;refine aJ rfl 39 (.tmp 6) (.tmp 30) rfl n6 #[.int .i64 ya.2.what,.string ya.2.head,.int .i64 ya.2.cert] rfl rfl 39 #[.int .i64 0,.string ⟨#[]⟩,.int .i64 0] Rp.out (az _ rfl) rfl (by simp[Value.oneCell']) ?_
     obtain⟨qa,qb,qc,qd⟩:=cj ac0.out ac1.out Rm.out Rm.out Rp.out aD (by decide) (by decide) #[.int .i64 ya.2.what,.string ya.2.head,.int .i64 ya.2.cert];obtain⟨ak2,ij⟩:∃W,W=ak1.setRow n6 #[.int .i64 ya.2.what,.string ya.2.head,.int .i64 ya.2.cert]:=⟨_,rfl⟩;rw[<-ij]at qa qb qc qd ⊢;clear ij;have ac3:=O qa;have ac4:=O qb;have Rq:=O (qd _ _ (Nat.ne_of_lt acX.out) Ro.out)
     have Rr:=O (qd _ _ (Nat.ne_of_lt Rl.out) ac2.out);have ac5:=O qc;clear qa qb qc qd;refine hK.out _ _ Rq.out ?_;intro ct;clear hK cW K;have cW:=ct;clear ct
     try simp only[Act.put,sA,sB,sC]
     refine wpAnyH_ready (rs:=[9]) (by kernel_rfl) (by simp) ?_;refine AllReadyH.cons rfl (fun K hK=>?_) AllReadyH.nil;refine aJ rfl 39 (.tmp 7) (.tmp 33) rfl n7 #[.int .i64 yb.2.what,.string yb.2.head,.int .i64 yb.2.cert] rfl rfl 39 #[.int .i64 0,.string ⟨#[]⟩,.int .i64 0] Rr.out (az _ rfl) rfl (by simp[Value.oneCell']) ?_
     obtain⟨qa,qb,qc,qd⟩:=cj ac3.out ac4.out CH.out CH.out Rr.out aD (by decide) (by decide) #[.int .i64 yb.2.what,.string yb.2.head,.int .i64 yb.2.cert];obtain⟨ak3,ij⟩:∃W,W=ak2.setRow n7 #[.int .i64 yb.2.what,.string yb.2.head,.int .i64 yb.2.cert]:=⟨_,rfl⟩;rw[<-ij]at qa qb qc qd ⊢;clear ij;have ac6:=O qa;have ac7:=O qb;have Rs:=O (qd _ _ (Nat.ne_of_lt Q9.out) Rq.out)
     have ac8:=O (qd _ _ (Nat.ne_of_gt Rl.out) ac5.out);have ac9:=O qc;clear qa qb qc qd;refine hK.out _ _ Rs.out ?_;intro ct;clear hK cW K;have cW:=ct;clear ct
     try simp only[Act.put,sA,sB,sC]
     clear cW;refine wpAnyH_done (by kernel_rfl) ?_ _;exact HJ.out n6 n7 ak3 ⟨⟨_,ac6.out⟩,ac7.out,Rs.out,ac8.out,ac9.out⟩
  ·go_simp;obtain⟨n6,hne⟩:∃n,n=Ng.heap.size:=⟨_,rfl⟩;obtain⟨Bo,cY⟩:∃W,W=(Ng.alloc (.cells #[.int .i64 0,.string ⟨#[]⟩,.int .i64 0] 39)).drew:=⟨_,rfl⟩;have bT:Fr ay Ng Bo:=by rw[cY];exact((Fr.refl _ _).alloc _).drew
   have ix:Bo.heap[n6]?=some (.cells #[.int .i64 0,.string ⟨#[]⟩,.int .i64 0] 39 (0,0)):=by rw[cY,hne];exact af Ng _
   have Iq:=O (Wm.out.bd bT);have CJ:=O (FE.out.trans bT);have Ir:=O (show w.heap.size<n6 by rw[hne];exact aj MJ.out);have vF:=O (show w.heap.size<=n6 by rw[hne];exact FE.out.size);have CK:=O (bT.keep MJ.out (fun h=>h));have Iu:=O ix;rw[<-cY, <-hne];clear cY hne bT ix;refine hK.out _ _ CK.out ?_;intro ct;clear hK cW K;have cW:=ct;clear ct
   try simp only[Act.put,sA,sB,sC]
   refine wpAnyH_ready (rs:=[2,7]) (by kernel_rfl) (by simp) ?_;refine AllReadyH.cons rfl (fun K hK=>?_) (AllReadyH.cons rfl (fun K hK=>?_) AllReadyH.nil)
   ·go_simp;refine(HCA.out _ QP CJ.out Iq.out).mono ?_;rintro e Ke⟨rfl,hp⟩;obtain⟨Rt,gA,gB,dH⟩:=cb Iq.out CJ.out (Nat.le_refl _) hp;have Iv:=O gA;have CM:=O gB;have CN:=O (dH _ _ _ CK.out aO (by decide));have Iw:=O (dH _ _ _ Iu.out aD (by decide));clear hp gA gB dH;refine hK.out _ _ CN.out ?_;intro ct;clear hK cW K;have cW:=ct;clear ct
    try simp only[Act.put,sA,sB,sC]
    refine wpAnyH_ready (rs:=[5,7]) (by kernel_rfl) (by simp) ?_;refine AllReadyH.cons rfl (fun K hK=>?_) (AllReadyH.cons rfl (fun K hK=>?_) AllReadyH.nil)
    ·go_simp;refine(QQ.out _ Rt CM.out Iv.out).mono ?_;rintro e Kf⟨rfl,hp⟩;obtain⟨ass,gA,gB,dH⟩:=cb Iv.out CM.out (Nat.le_refl _) hp;have ac_:=O gA;have Ru:=O gB;have Iy:=O (dH _ _ _ CN.out aO (by decide));have Rv:=O (dH _ _ _ Iw.out aD (by decide));clear hp gA gB dH;refine hK.out _ _ Iy.out ?_;intro ct;clear hK cW K;have cW:=ct;clear ct
     try simp only[Act.put,sA,sB,sC]
     refine wpAnyH_ready (rs:=[7]) (by kernel_rfl) (by simp) ?_;refine AllReadyH.cons rfl (fun K hK=>?_) AllReadyH.nil;go_simp;obtain⟨n7,hne⟩:∃n,n=Kf.heap.size:=⟨_,rfl⟩;obtain⟨Rw,cY⟩:∃W,W=(Kf.alloc (.cells #[.int .i64 0,.string ⟨#[]⟩,.int .i64 0] 39)):=⟨_,rfl⟩;have bT:Fr ay Kf Rw:=by rw[cY];exact((Fr.refl _ _).alloc _)
     have ix:Rw.heap[n7]?=some (.cells #[.int .i64 0,.string ⟨#[]⟩,.int .i64 0] 39 (0,0)):=by rw[cY,hne];exact af Kf _
     have ac':=O (ac_.out.bd bT);have ada:=O (Ru.out.trans bT);have adb:=O (show w.heap.size<n7 by rw[hne];exact aj Iy.out);have Rx:=O (show n6<n7 by rw[hne];exact aj Rv.out);have Ry:=O (show w.heap.size<=n7 by rw[hne];exact Ru.out.size);have Rz:=O (bT.keep Iy.out (fun h=>h));have RA:=O (bT.keep Rv.out (fun h=>h));have ade:=O ix;rw[<-cY, <-hne];clear cY hne bT ix;refine hK.out _ _ Rz.out ?_;intro ct
     clear hK cW K;have cW:=ct;clear ct
     try simp only[Act.put,sA,sB,sC]
     refine wpAnyH_ready (rs:=[8]) (by kernel_rfl) (by simp) ?_;refine AllReadyH.cons rfl (fun K hK=>?_) AllReadyH.nil;refine aJ rfl 39 (.tmp 6) (.tmp 30) rfl n6 #[.int .i64 ya.2.what,.string ya.2.head,.int .i64 ya.2.cert] rfl rfl 39 #[.int .i64 0,.string ⟨#[]⟩,.int .i64 0] RA.out (az _ rfl) rfl (by simp[Value.oneCell']) ?_
     obtain⟨qa,qb,qc,qd⟩:=cj ac'.out ada.out vF.out vF.out RA.out aD (by decide) (by decide) #[.int .i64 ya.2.what,.string ya.2.head,.int .i64 ya.2.cert];obtain⟨ak4,ij⟩:∃W,W=Rw.setRow n6 #[.int .i64 ya.2.what,.string ya.2.head,.int .i64 ya.2.cert]:=⟨_,rfl⟩;rw[<-ij]at qa qb qc qd ⊢;clear ij;have adf:=O qa;have adg:=O qb;have RB:=O (qd _ _ (Nat.ne_of_lt Ir.out) Rz.out)
     have RC:=O (qd _ _ (Nat.ne_of_gt Rx.out) ade.out);have adh:=O qc;clear qa qb qc qd;refine hK.out _ _ RB.out ?_;intro ct;clear hK cW K;have cW:=ct;clear ct
     try simp only[Act.put,sA,sB,sC]
     refine wpAnyH_ready (rs:=[9]) (by kernel_rfl) (by simp) ?_;refine AllReadyH.cons rfl (fun K hK=>?_) AllReadyH.nil;refine aJ rfl 39 (.tmp 7) (.tmp 33) rfl n7 #[.int .i64 yb.2.what,.string yb.2.head,.int .i64 yb.2.cert] rfl rfl 39 #[.int .i64 0,.string ⟨#[]⟩,.int .i64 0] RC.out (az _ rfl) rfl (by simp[Value.oneCell']) ?_
     obtain⟨qa,qb,qc,qd⟩:=cj adf.out adg.out Ry.out Ry.out RC.out aD (by decide) (by decide) #[.int .i64 yb.2.what,.string yb.2.head,.int .i64 yb.2.cert];obtain⟨ak5,ij⟩:∃W,W=ak4.setRow n7 #[.int .i64 yb.2.what,.string yb.2.head,.int .i64 yb.2.cert]:=⟨_,rfl⟩;rw[<-ij]at qa qb qc qd ⊢;clear ij;have adi:=O qa;have adj:=O qb;have RD:=O (qd _ _ (Nat.ne_of_lt adb.out) RB.out)
     have adk:=O (qd _ _ (Nat.ne_of_lt Rx.out) adh.out);have adl:=O qc;clear qa qb qc qd;refine hK.out _ _ RD.out ?_;intro ct;clear hK cW K;have cW:=ct;clear ct
     try simp only[Act.put,sA,sB,sC]
     clear cW;refine wpAnyH_done (by kernel_rfl) ?_ _;exact HJ.out n6 n7 ak5 ⟨⟨_,adi.out⟩,adj.out,RD.out,adk.out,adl.out⟩
    ·go_simp;obtain⟨n7,hne⟩:∃n,n=Ke.heap.size:=⟨_,rfl⟩;obtain⟨YK,cY⟩:∃W,W=(Ke.alloc (.cells #[.int .i64 0,.string ⟨#[]⟩,.int .i64 0] 39)):=⟨_,rfl⟩;have bT:Fr ay Ke YK:=by rw[cY];exact((Fr.refl _ _).alloc _)
     have ix:YK.heap[n7]?=some (.cells #[.int .i64 0,.string ⟨#[]⟩,.int .i64 0] 39 (0,0)):=by rw[cY,hne];exact af Ke _
     have RE:=O (Iv.out.bd bT);have RF:=O (CM.out.trans bT);have adm:=O (show w.heap.size<n7 by rw[hne];exact aj CN.out);have RG:=O (show n6<n7 by rw[hne];exact aj Iw.out);have RH:=O (show w.heap.size<=n7 by rw[hne];exact CM.out.size);have RI:=O (bT.keep CN.out (fun h=>h));have adn:=O (bT.keep Iw.out (fun h=>h));have ado:=O ix;rw[<-cY, <-hne];clear cY hne bT ix;refine hK.out _ _ RI.out ?_;intro ct
     clear hK cW K;have cW:=ct;clear ct
     try simp only[Act.put,sA,sB,sC]
     refine wpAnyH_ready (rs:=[5]) (by kernel_rfl) (by simp) ?_;refine AllReadyH.cons rfl (fun K hK=>?_) AllReadyH.nil;go_simp;refine(QQ.out _ Rt RF.out RE.out).mono ?_;rintro e ak6⟨rfl,hp⟩;obtain⟨ast,gA,gB,dH⟩:=cb RE.out RF.out (Nat.le_refl _) hp;have adp:=O gA;have adq:=O gB;have RJ:=O (dH _ _ _ RI.out aO (by decide));have RL:=O (dH _ _ _ adn.out aD (by decide))
     have adr:=O (dH _ _ _ ado.out aD (by decide));clear hp gA gB dH;refine hK.out _ _ RJ.out ?_;intro ct;clear hK cW K;have cW:=ct;clear ct
     try simp only[Act.put,sA,sB,sC]
     refine wpAnyH_ready (rs:=[8]) (by kernel_rfl) (by simp) ?_;refine AllReadyH.cons rfl (fun K hK=>?_) AllReadyH.nil;refine aJ rfl 39 (.tmp 6) (.tmp 30) rfl n6 #[.int .i64 ya.2.what,.string ya.2.head,.int .i64 ya.2.cert] rfl rfl 39 #[.int .i64 0,.string ⟨#[]⟩,.int .i64 0] RL.out (az _ rfl) rfl (by simp[Value.oneCell']) ?_
     obtain⟨qa,qb,qc,qd⟩:=cj adp.out adq.out vF.out vF.out RL.out aD (by decide) (by decide) #[.int .i64 ya.2.what,.string ya.2.head,.int .i64 ya.2.cert];obtain⟨ak7,ij⟩:∃W,W=ak6.setRow n6 #[.int .i64 ya.2.what,.string ya.2.head,.int .i64 ya.2.cert]:=⟨_,rfl⟩;rw[<-ij]at qa qb qc qd ⊢;clear ij;have ads:=O qa;have adt:=O qb;have RM:=O (qd _ _ (Nat.ne_of_lt Ir.out) RJ.out)
     have RN:=O (qd _ _ (Nat.ne_of_gt RG.out) adr.out);have adu:=O qc;clear qa qb qc qd;refine hK.out _ _ RM.out ?_;intro ct;clear hK cW K;have cW:=ct;clear ct
     try simp only[Act.put,sA,sB,sC]
     refine wpAnyH_ready (rs:=[9]) (by kernel_rfl) (by simp) ?_;refine AllReadyH.cons rfl (fun K hK=>?_) AllReadyH.nil;refine aJ rfl 39 (.tmp 7) (.tmp 33) rfl n7 #[.int .i64 yb.2.what,.string yb.2.head,.int .i64 yb.2.cert] rfl rfl 39 #[.int .i64 0,.string ⟨#[]⟩,.int .i64 0] RN.out (az _ rfl) rfl (by simp[Value.oneCell']) ?_
     obtain⟨qa,qb,qc,qd⟩:=cj ads.out adt.out RH.out RH.out RN.out aD (by decide) (by decide) #[.int .i64 yb.2.what,.string yb.2.head,.int .i64 yb.2.cert];obtain⟨ak8,ij⟩:∃W,W=ak7.setRow n7 #[.int .i64 yb.2.what,.string yb.2.head,.int .i64 yb.2.cert]:=⟨_,rfl⟩;rw[<-ij]at qa qb qc qd ⊢;clear ij;have adv:=O qa;have adw:=O qb;have RO:=O (qd _ _ (Nat.ne_of_lt adm.out) RM.out)
     have adx:=O (qd _ _ (Nat.ne_of_lt RG.out) adu.out);have ady:=O qc;clear qa qb qc qd;refine hK.out _ _ RO.out ?_;intro ct;clear hK cW K;have cW:=ct;clear ct
     try simp only[Act.put,sA,sB,sC]
     clear cW;refine wpAnyH_done (by kernel_rfl) ?_ _;exact HJ.out n6 n7 ak8 ⟨⟨_,adv.out⟩,adw.out,RO.out,adx.out,ady.out⟩
   ·go_simp;obtain⟨n7,hne⟩:∃n,n=Bo.heap.size:=⟨_,rfl⟩;obtain⟨YL,cY⟩:∃W,W=(Bo.alloc (.cells #[.int .i64 0,.string ⟨#[]⟩,.int .i64 0] 39)):=⟨_,rfl⟩;have bT:Fr ay Bo YL:=by rw[cY];exact((Fr.refl _ _).alloc _)
    have ix:YL.heap[n7]?=some (.cells #[.int .i64 0,.string ⟨#[]⟩,.int .i64 0] 39 (0,0)):=by rw[cY,hne];exact af Bo _
    have RP:=O (Iq.out.bd bT);have RQ:=O (CJ.out.trans bT);have adz:=O (show w.heap.size<n7 by rw[hne];exact aj CK.out);have RR:=O (show n6<n7 by rw[hne];exact aj Iu.out);have RS:=O (show w.heap.size<=n7 by rw[hne];exact CJ.out.size);have RT:=O (bT.keep CK.out (fun h=>h));have adA:=O (bT.keep Iu.out (fun h=>h));have adB:=O ix;rw[<-cY, <-hne];clear cY hne bT ix;refine hK.out _ _ RT.out ?_;intro ct
    clear hK cW K;have cW:=ct;clear ct
    try simp only[Act.put,sA,sB,sC]
    refine wpAnyH_ready (rs:=[2]) (by kernel_rfl) (by simp) ?_;refine AllReadyH.cons rfl (fun K hK=>?_) AllReadyH.nil;go_simp;refine(HCA.out _ QP RQ.out RP.out).mono ?_;rintro e avs⟨rfl,hp⟩;obtain⟨adC,gA,gB,dH⟩:=cb RP.out RQ.out (Nat.le_refl _) hp;have RU:=O gA;have RV:=O gB;have RW:=O (dH _ _ _ RT.out aO (by decide));have adD:=O (dH _ _ _ adA.out aD (by decide))
    have adE:=O (dH _ _ _ adB.out aD (by decide));clear hp gA gB dH;refine hK.out _ _ RW.out ?_;intro ct;clear hK cW K;have cW:=ct;clear ct
    try simp only[Act.put,sA,sB,sC]
    refine wpAnyH_ready (rs:=[5]) (by kernel_rfl) (by simp) ?_;refine AllReadyH.cons rfl (fun K hK=>?_) AllReadyH.nil;go_simp;refine(QQ.out _ adC RV.out RU.out).mono ?_;rintro e ak9⟨rfl,hp⟩;obtain⟨asu,gA,gB,dH⟩:=cb RU.out RV.out (Nat.le_refl _) hp;have adF:=O gA;have adG:=O gB;have RX:=O (dH _ _ _ RW.out aO (by decide));have RY:=O (dH _ _ _ adD.out aD (by decide))
    have adH:=O (dH _ _ _ adE.out aD (by decide));clear hp gA gB dH;refine hK.out _ _ RX.out ?_;intro ct;clear hK cW K;have cW:=ct;clear ct
    try simp only[Act.put,sA,sB,sC]
    refine wpAnyH_ready (rs:=[8]) (by kernel_rfl) (by simp) ?_;refine AllReadyH.cons rfl (fun K hK=>?_) AllReadyH.nil;refine aJ rfl 39 (.tmp 6) (.tmp 30) rfl n6 #[.int .i64 ya.2.what,.string ya.2.head,.int .i64 ya.2.cert] rfl rfl 39 #[.int .i64 0,.string ⟨#[]⟩,.int .i64 0] RY.out (az _ rfl) rfl (by simp[Value.oneCell']) ?_
    obtain⟨qa,qb,qc,qd⟩:=cj adF.out adG.out vF.out vF.out RY.out aD (by decide) (by decide) #[.int .i64 ya.2.what,.string ya.2.head,.int .i64 ya.2.cert];obtain⟨ak_,ij⟩:∃W,W=ak9.setRow n6 #[.int .i64 ya.2.what,.string ya.2.head,.int .i64 ya.2.cert]:=⟨_,rfl⟩;rw[<-ij]at qa qb qc qd ⊢;clear ij;have adI:=O qa;have adJ:=O qb;have RZ:=O (qd _ _ (Nat.ne_of_lt Ir.out) RX.out)
    have R0:=O (qd _ _ (Nat.ne_of_gt RR.out) adH.out);have adK:=O qc;clear qa qb qc qd;refine hK.out _ _ RZ.out ?_;intro ct;clear hK cW K;have cW:=ct;clear ct
    try simp only[Act.put,sA,sB,sC]
    refine wpAnyH_ready (rs:=[9]) (by kernel_rfl) (by simp) ?_;refine AllReadyH.cons rfl (fun K hK=>?_) AllReadyH.nil;refine aJ rfl 39 (.tmp 7) (.tmp 33) rfl n7 #[.int .i64 yb.2.what,.string yb.2.head,.int .i64 yb.2.cert] rfl rfl 39 #[.int .i64 0,.string ⟨#[]⟩,.int .i64 0] R0.out (az _ rfl) rfl (by simp[Value.oneCell']) ?_
    obtain⟨qa,qb,qc,qd⟩:=cj adI.out adJ.out RS.out RS.out R0.out aD (by decide) (by decide) #[.int .i64 yb.2.what,.string yb.2.head,.int .i64 yb.2.cert];obtain⟨ak',ij⟩:∃W,W=ak_.setRow n7 #[.int .i64 yb.2.what,.string yb.2.head,.int .i64 yb.2.cert]:=⟨_,rfl⟩;rw[<-ij]at qa qb qc qd ⊢;clear ij;have adL:=O qa;have adM:=O qb;have R2:=O (qd _ _ (Nat.ne_of_lt adz.out) RZ.out)
    have adN:=O (qd _ _ (Nat.ne_of_lt RR.out) adK.out);have adO:=O qc;clear qa qb qc qd;refine hK.out _ _ R2.out ?_;intro ct;clear hK cW K;have cW:=ct;clear ct
    try simp only[Act.put,sA,sB,sC]
    clear cW;refine wpAnyH_done (by kernel_rfl) ?_ _;exact HJ.out n6 n7 ak' ⟨⟨_,adL.out⟩,adM.out,R2.out,adN.out,adO.out⟩
  ·go_simp;obtain⟨n7,hne⟩:∃n,n=Ng.heap.size:=⟨_,rfl⟩;obtain⟨Bp,cY⟩:∃W,W=(Ng.alloc (.cells #[.int .i64 0,.string ⟨#[]⟩,.int .i64 0] 39)).drew:=⟨_,rfl⟩;have bT:Fr ay Ng Bp:=by rw[cY];exact((Fr.refl _ _).alloc _).drew
   have ix:Bp.heap[n7]?=some (.cells #[.int .i64 0,.string ⟨#[]⟩,.int .i64 0] 39 (0,0)):=by rw[cY,hne];exact af Ng _
   have Iz:=O (Wm.out.bd bT);have CO:=O (FE.out.trans bT);have IA:=O (show w.heap.size<n7 by rw[hne];exact aj MJ.out);have vG:=O (show w.heap.size<=n7 by rw[hne];exact FE.out.size);have CP:=O (bT.keep MJ.out (fun h=>h));have IB:=O ix;rw[<-cY, <-hne];clear cY hne bT ix;refine hK.out _ _ CP.out ?_;intro ct;clear hK cW K;have cW:=ct;clear ct
   try simp only[Act.put,sA,sB,sC]
   refine wpAnyH_ready (rs:=[2,6]) (by kernel_rfl) (by simp) ?_;refine AllReadyH.cons rfl (fun K hK=>?_) (AllReadyH.cons rfl (fun K hK=>?_) AllReadyH.nil)
   ·go_simp;refine(HCA.out _ QP CO.out Iz.out).mono ?_;rintro e Kg⟨rfl,hp⟩;obtain⟨R7,gA,gB,dH⟩:=cb Iz.out CO.out (Nat.le_refl _) hp;have IC:=O gA;have CQ:=O gB;have CR:=O (dH _ _ _ CP.out aO (by decide));have ID:=O (dH _ _ _ IB.out aD (by decide));clear hp gA gB dH;refine hK.out _ _ CR.out ?_;intro ct;clear hK cW K;have cW:=ct;clear ct
    try simp only[Act.put,sA,sB,sC]
    refine wpAnyH_ready (rs:=[5,6]) (by kernel_rfl) (by simp) ?_;refine AllReadyH.cons rfl (fun K hK=>?_) (AllReadyH.cons rfl (fun K hK=>?_) AllReadyH.nil)
    ·go_simp;refine(QQ.out _ R7 CQ.out IC.out).mono ?_;rintro e Kh⟨rfl,hp⟩;obtain⟨asv,gA,gB,dH⟩:=cb IC.out CQ.out (Nat.le_refl _) hp;have adP:=O gA;have R8:=O gB;have IE:=O (dH _ _ _ CR.out aO (by decide));have R9:=O (dH _ _ _ ID.out aD (by decide));clear hp gA gB dH;refine hK.out _ _ IE.out ?_;intro ct;clear hK cW K;have cW:=ct;clear ct
     try simp only[Act.put,sA,sB,sC]
     refine wpAnyH_ready (rs:=[6]) (by kernel_rfl) (by simp) ?_;refine AllReadyH.cons rfl (fun K hK=>?_) AllReadyH.nil;go_simp;obtain⟨n6,hne⟩:∃n,n=Kh.heap.size:=⟨_,rfl⟩;obtain⟨R_,cY⟩:∃W,W=(Kh.alloc (.cells #[.int .i64 0,.string ⟨#[]⟩,.int .i64 0] 39)):=⟨_,rfl⟩;have bT:Fr ay Kh R_:=by rw[cY];exact((Fr.refl _ _).alloc _)
     have ix:R_.heap[n6]?=some (.cells #[.int .i64 0,.string ⟨#[]⟩,.int .i64 0] 39 (0,0)):=by rw[cY,hne];exact af Kh _
     have adQ:=O (adP.out.bd bT);have adR:=O (R8.out.trans bT);have adS:=O (show w.heap.size<n6 by rw[hne];exact aj IE.out);have Sa:=O (show n7<n6 by rw[hne];exact aj R9.out);have Sb:=O (show w.heap.size<=n6 by rw[hne];exact R8.out.size);have Sc:=O (bT.keep IE.out (fun h=>h));have adT:=O (bT.keep R9.out (fun h=>h));have Sd:=O ix;rw[<-cY, <-hne];clear cY hne bT ix;refine hK.out _ _ Sc.out ?_;intro ct
     clear hK cW K;have cW:=ct;clear ct
     try simp only[Act.put,sA,sB,sC]
     refine wpAnyH_ready (rs:=[8]) (by kernel_rfl) (by simp) ?_;refine AllReadyH.cons rfl (fun K hK=>?_) AllReadyH.nil;refine aJ rfl 39 (.tmp 6) (.tmp 30) rfl n6 #[.int .i64 ya.2.what,.string ya.2.head,.int .i64 ya.2.cert] rfl rfl 39 #[.int .i64 0,.string ⟨#[]⟩,.int .i64 0] Sd.out (az _ rfl) rfl (by simp[Value.oneCell']) ?_
     obtain⟨qa,qb,qc,qd⟩:=cj adQ.out adR.out Sb.out Sb.out Sd.out aD (by decide) (by decide) #[.int .i64 ya.2.what,.string ya.2.head,.int .i64 ya.2.cert];obtain⟨ala,ij⟩:∃W,W=R_.setRow n6 #[.int .i64 ya.2.what,.string ya.2.head,.int .i64 ya.2.cert]:=⟨_,rfl⟩;rw[<-ij]at qa qb qc qd ⊢;clear ij;have adU:=O qa;have adV:=O qb;have Se:=O (qd _ _ (Nat.ne_of_lt adS.out) Sc.out)
     have Sf:=O (qd _ _ (Nat.ne_of_lt Sa.out) adT.out);have adW:=O qc;clear qa qb qc qd;refine hK.out _ _ Se.out ?_;intro ct;clear hK cW K;have cW:=ct;clear ct
     try simp only[Act.put,sA,sB,sC]
     refine wpAnyH_ready (rs:=[9]) (by kernel_rfl) (by simp) ?_;refine AllReadyH.cons rfl (fun K hK=>?_) AllReadyH.nil;refine aJ rfl 39 (.tmp 7) (.tmp 33) rfl n7 #[.int .i64 yb.2.what,.string yb.2.head,.int .i64 yb.2.cert] rfl rfl 39 #[.int .i64 0,.string ⟨#[]⟩,.int .i64 0] Sf.out (az _ rfl) rfl (by simp[Value.oneCell']) ?_
     obtain⟨qa,qb,qc,qd⟩:=cj adU.out adV.out vG.out vG.out Sf.out aD (by decide) (by decide) #[.int .i64 yb.2.what,.string yb.2.head,.int .i64 yb.2.cert];obtain⟨alb,ij⟩:∃W,W=ala.setRow n7 #[.int .i64 yb.2.what,.string yb.2.head,.int .i64 yb.2.cert]:=⟨_,rfl⟩;rw[<-ij]at qa qb qc qd ⊢;clear ij;have adX:=O qa;have adY:=O qb;have Sg:=O (qd _ _ (Nat.ne_of_lt IA.out) Se.out)
     have adZ:=O (qd _ _ (Nat.ne_of_gt Sa.out) adW.out);have ad0:=O qc;clear qa qb qc qd;refine hK.out _ _ Sg.out ?_;intro ct;clear hK cW K;have cW:=ct;clear ct
     try simp only[Act.put,sA,sB,sC]
     clear cW;refine wpAnyH_done (by kernel_rfl) ?_ _;exact HJ.out n6 n7 alb ⟨⟨_,adX.out⟩,adY.out,Sg.out,adZ.out,ad0.out⟩
    ·go_simp;obtain⟨n6,hne⟩:∃n,n=Kg.heap.size:=⟨_,rfl⟩;obtain⟨YM,cY⟩:∃W,W=(Kg.alloc (.cells #[.int .i64 0,.string ⟨#[]⟩,.int .i64 0] 39)):=⟨_,rfl⟩;have bT:Fr ay Kg YM:=by rw[cY];exact((Fr.refl _ _).alloc _)
     have ix:YM.heap[n6]?=some (.cells #[.int .i64 0,.string ⟨#[]⟩,.int .i64 0] 39 (0,0)):=by rw[cY,hne];exact af Kg _
     have Si:=O (IC.out.bd bT);have Sj:=O (CQ.out.trans bT);have ad1:=O (show w.heap.size<n6 by rw[hne];exact aj CR.out);have Sk:=O (show n7<n6 by rw[hne];exact aj ID.out);have Sl:=O (show w.heap.size<=n6 by rw[hne];exact CQ.out.size);have Sm:=O (bT.keep CR.out (fun h=>h));have ad3:=O (bT.keep ID.out (fun h=>h));have ad4:=O ix;rw[<-cY, <-hne];clear cY hne bT ix;refine hK.out _ _ Sm.out ?_;intro ct
     clear hK cW K;have cW:=ct;clear ct
     try simp only[Act.put,sA,sB,sC]
     refine wpAnyH_ready (rs:=[5]) (by kernel_rfl) (by simp) ?_;refine AllReadyH.cons rfl (fun K hK=>?_) AllReadyH.nil;go_simp;refine(QQ.out _ R7 Sj.out Si.out).mono ?_;rintro e alc⟨rfl,hp⟩;obtain⟨asw,gA,gB,dH⟩:=cb Si.out Sj.out (Nat.le_refl _) hp;have ad5:=O gA;have ad6:=O gB;have Sn:=O (dH _ _ _ Sm.out aO (by decide));have ad7:=O (dH _ _ _ ad3.out aD (by decide))
     have Sp:=O (dH _ _ _ ad4.out aD (by decide));clear hp gA gB dH;refine hK.out _ _ Sn.out ?_;intro ct;clear hK cW K;have cW:=ct;clear ct
     try simp only[Act.put,sA,sB,sC]
     refine wpAnyH_ready (rs:=[8]) (by kernel_rfl) (by simp) ?_;refine AllReadyH.cons rfl (fun K hK=>?_) AllReadyH.nil;refine aJ rfl 39 (.tmp 6) (.tmp 30) rfl n6 #[.int .i64 ya.2.what,.string ya.2.head,.int .i64 ya.2.cert] rfl rfl 39 #[.int .i64 0,.string ⟨#[]⟩,.int .i64 0] Sp.out (az _ rfl) rfl (by simp[Value.oneCell']) ?_
     obtain⟨qa,qb,qc,qd⟩:=cj ad5.out ad6.out Sl.out Sl.out Sp.out aD (by decide) (by decide) #[.int .i64 ya.2.what,.string ya.2.head,.int .i64 ya.2.cert];obtain⟨ald,ij⟩:∃W,W=alc.setRow n6 #[.int .i64 ya.2.what,.string ya.2.head,.int .i64 ya.2.cert]:=⟨_,rfl⟩;rw[<-ij]at qa qb qc qd ⊢;clear ij;have ad8:=O qa;have ad9:=O qb;have Sq:=O (qd _ _ (Nat.ne_of_lt ad1.out) Sn.out)
     have Sr:=O (qd _ _ (Nat.ne_of_lt Sk.out) ad7.out);have ad_:=O qc;clear qa qb qc qd;refine hK.out _ _ Sq.out ?_;intro ct;clear hK cW K;have cW:=ct;clear ct
     try simp only[Act.put,sA,sB,sC]
     refine wpAnyH_ready (rs:=[9]) (by kernel_rfl) (by simp) ?_;refine AllReadyH.cons rfl (fun K hK=>?_) AllReadyH.nil;refine aJ rfl 39 (.tmp 7) (.tmp 33) rfl n7 #[.int .i64 yb.2.what,.string yb.2.head,.int .i64 yb.2.cert] rfl rfl 39 #[.int .i64 0,.string ⟨#[]⟩,.int .i64 0] Sr.out (az _ rfl) rfl (by simp[Value.oneCell']) ?_
     obtain⟨qa,qb,qc,qd⟩:=cj ad8.out ad9.out vG.out vG.out Sr.out aD (by decide) (by decide) #[.int .i64 yb.2.what,.string yb.2.head,.int .i64 yb.2.cert];obtain⟨ale,ij⟩:∃W,W=ald.setRow n7 #[.int .i64 yb.2.what,.string yb.2.head,.int .i64 yb.2.cert]:=⟨_,rfl⟩;rw[<-ij]at qa qb qc qd ⊢;clear ij;have ad':=O qa;have aea:=O qb;have Ss:=O (qd _ _ (Nat.ne_of_lt IA.out) Sq.out)
     have aeb:=O (qd _ _ (Nat.ne_of_gt Sk.out) ad_.out);have aec:=O qc;clear qa qb qc qd;refine hK.out _ _ Ss.out ?_;intro ct;clear hK cW K;have cW:=ct;clear ct
     try simp only[Act.put,sA,sB,sC]
     clear cW;refine wpAnyH_done (by kernel_rfl) ?_ _;exact HJ.out n6 n7 ale ⟨⟨_,ad'.out⟩,aea.out,Ss.out,aeb.out,aec.out⟩
   ·go_simp;obtain⟨n6,hne⟩:∃n,n=Bp.heap.size:=⟨_,rfl⟩;obtain⟨YN,cY⟩:∃W,W=(Bp.alloc (.cells #[.int .i64 0,.string ⟨#[]⟩,.int .i64 0] 39)):=⟨_,rfl⟩;have bT:Fr ay Bp YN:=by rw[cY];exact((Fr.refl _ _).alloc _)
    have ix:YN.heap[n6]?=some (.cells #[.int .i64 0,.string ⟨#[]⟩,.int .i64 0] 39 (0,0)):=by rw[cY,hne];exact af Bp _
    have Su:=O (Iz.out.bd bT);have Sv:=O (CO.out.trans bT);have aed:=O (show w.heap.size<n6 by rw[hne];exact aj CP.out);have Sw:=O (show n7<n6 by rw[hne];exact aj IB.out);have Sx:=O (show w.heap.size<=n6 by rw[hne];exact CO.out.size);have Sy:=O (bT.keep CP.out (fun h=>h));have aee:=O (bT.keep IB.out (fun h=>h));have aef:=O ix;rw[<-cY, <-hne];clear cY hne bT ix;refine hK.out _ _ Sy.out ?_;intro ct
    clear hK cW K;have cW:=ct;clear ct
    try simp only[Act.put,sA,sB,sC]
    refine wpAnyH_ready (rs:=[2]) (by kernel_rfl) (by simp) ?_;refine AllReadyH.cons rfl (fun K hK=>?_) AllReadyH.nil;go_simp;refine(HCA.out _ QP Sv.out Su.out).mono ?_;rintro e avt⟨rfl,hp⟩;obtain⟨aeg,gA,gB,dH⟩:=cb Su.out Sv.out (Nat.le_refl _) hp;have Sz:=O gA;have SA:=O gB;have SB:=O (dH _ _ _ Sy.out aO (by decide));have aeh:=O (dH _ _ _ aee.out aD (by decide))
    have aei:=O (dH _ _ _ aef.out aD (by decide));clear hp gA gB dH;refine hK.out _ _ SB.out ?_;intro ct;clear hK cW K;have cW:=ct;clear ct
    try simp only[Act.put,sA,sB,sC]
    refine wpAnyH_ready (rs:=[5]) (by kernel_rfl) (by simp) ?_;refine AllReadyH.cons rfl (fun K hK=>?_) AllReadyH.nil;go_simp;refine(QQ.out _ aeg SA.out Sz.out).mono ?_;rintro e alf⟨rfl,hp⟩;obtain⟨asx,gA,gB,dH⟩:=cb Sz.out SA.out (Nat.le_refl _) hp;have aej:=O gA;have aek:=O gB;have SC:=O (dH _ _ _ SB.out aO (by decide));have ael:=O (dH _ _ _ aeh.out aD (by decide))
    have SD:=O (dH _ _ _ aei.out aD (by decide));clear hp gA gB dH;refine hK.out _ _ SC.out ?_;intro ct;clear hK cW K;have cW:=ct;clear ct
    try simp only[Act.put,sA,sB,sC]
    refine wpAnyH_ready (rs:=[8]) (by kernel_rfl) (by simp) ?_;refine AllReadyH.cons rfl (fun K hK=>?_) AllReadyH.nil;refine aJ rfl 39 (.tmp 6) (.tmp 30) rfl n6 #[.int .i64 ya.2.what,.string ya.2.head,.int .i64 ya.2.cert] rfl rfl 39 #[.int .i64 0,.string ⟨#[]⟩,.int .i64 0] SD.out (az _ rfl) rfl (by simp[Value.oneCell']) ?_
    obtain⟨qa,qb,qc,qd⟩:=cj aej.out aek.out Sx.out Sx.out SD.out aD (by decide) (by decide) #[.int .i64 ya.2.what,.string ya.2.head,.int .i64 ya.2.cert];obtain⟨alh,ij⟩:∃W,W=alf.setRow n6 #[.int .i64 ya.2.what,.string ya.2.head,.int .i64 ya.2.cert]:=⟨_,rfl⟩;rw[<-ij]at qa qb qc qd ⊢;clear ij;have aem:=O qa;have aen:=O qb;have SE:=O (qd _ _ (Nat.ne_of_lt aed.out) SC.out)
    have SF:=O (qd _ _ (Nat.ne_of_lt Sw.out) ael.out);have aeo:=O qc;clear qa qb qc qd;refine hK.out _ _ SE.out ?_;intro ct;clear hK cW K;have cW:=ct;clear ct
    try simp only[Act.put,sA,sB,sC]
    refine wpAnyH_ready (rs:=[9]) (by kernel_rfl) (by simp) ?_;refine AllReadyH.cons rfl (fun K hK=>?_) AllReadyH.nil;refine aJ rfl 39 (.tmp 7) (.tmp 33) rfl n7 #[.int .i64 yb.2.what,.string yb.2.head,.int .i64 yb.2.cert] rfl rfl 39 #[.int .i64 0,.string ⟨#[]⟩,.int .i64 0] SF.out (az _ rfl) rfl (by simp[Value.oneCell']) ?_
    obtain⟨qa,qb,qc,qd⟩:=cj aem.out aen.out vG.out vG.out SF.out aD (by decide) (by decide) #[.int .i64 yb.2.what,.string yb.2.head,.int .i64 yb.2.cert];obtain⟨ali,ij⟩:∃W,W=alh.setRow n7 #[.int .i64 yb.2.what,.string yb.2.head,.int .i64 yb.2.cert]:=⟨_,rfl⟩;rw[<-ij]at qa qb qc qd ⊢;clear ij;have aep:=O qa;have aeq:=O qb;have SG:=O (qd _ _ (Nat.ne_of_lt IA.out) SE.out)
    have aer:=O (qd _ _ (Nat.ne_of_gt Sw.out) aeo.out);have aes:=O qc;clear qa qb qc qd;refine hK.out _ _ SG.out ?_;intro ct;clear hK cW K;have cW:=ct;clear ct
    try simp only[Act.put,sA,sB,sC]
    clear cW;refine wpAnyH_done (by kernel_rfl) ?_ _;exact HJ.out n6 n7 ali ⟨⟨_,aep.out⟩,aeq.out,SG.out,aer.out,aes.out⟩
 ·intro n6 n7 W hP;obtain⟨⟨pvz,iy⟩,gU,Jb,ix,hz5⟩:=hP;obtain⟨l1,l2,l3⟩:=aco.out;have Fa:=O (oN w.heap.size W B pvz yb.1 iy o.ab.part (fun i hi=>Nat.lt_of_le_of_lt (HIB.out.ok.part i).xc.1 (by decide)));have d0:W.cell? ⟨n6,0,none⟩=some (.int .i64 1):=by rw[<-l1];simp only[World.cell?,ix];rfl
  have d1:W.cell? ⟨n7,0,none⟩=some (.int .i64 2):=by rw[<-l2];simp only[World.cell?,hz5];rfl
  have c1:W.cell? ⟨w.heap.size,1,none⟩=some (.int .i64 o.ab.part):=by simp only[World.cell?,Jb];rfl
  have asy:=O gU;have sg:(({o with what:=3}:ei).bF hs).right=true:=by
   cases hr:(({o with what:=2}:ei).bF hs).right
   ·have h7:=acp.out;rw[gR hr]at h7;have h3:=He.out;rw[h7]at h3;simp[rep]at h3
   ·exact mf (n:=3) hr (by decide) (by decide)
  obtain⟨p0,p1⟩:=fl sg;have p0':0<=o.ab.part:=p0;have p1':o.ab.part<4:=p1;have hga:iW yb.1 o.ab.part=(yb.1.part o.ab.part.toNat).aH:=by unfold iW;rw[if_pos ⟨p0',p1'⟩]
  rw[hga]at Fa;have hle:(1:Int)<=((yb.1.part o.ab.part.toNat).aH.length:Int):=by omega
  clear iy gU Jb ix hz5 l1 l2 l3 sg p0 p1 p0' p1' hga;go_wp2_with fail
  refine Fa.out.mono ?_;rintro e u10⟨gv2,rfl,⟨⟨rs2,bV,CE⟩,_⟩,QO⟩;obtain⟨g2a,g2c,X_⟩:=bV.at.form;rw[List.length_map,CE.len]at X_;subst X_;have HFE:=O (asy.out.trans QO);clear bV CE QO Fa;go_wp2_with fail
  go_ret;exact⟨rfl,HFE.out.bQ⟩
end Go.Proofs.YtjdmjbdkdmbaiaaGreatDoor
namespace Go.Proofs.YtjdmjbdkdmbaiaaGreatDoor.worldOnce
open Go.ChangeShapes Go.WideShapes Go.ChangeAt Go.RowKit
open Go.ChangeMaps (open_string shut_string)
theorem own:ownKnob Tryz.prog.godebug=none:=by kernel_rfl
theorem laidOut:laidOutB Tryz.prog=true:=by kernel_rfl
theorem lifted(os:Os)(started:os.Started)(H:Type)(enc:TypeId×Value->H) :
  ReturnsInHanded {} Tryz.checked os 5 .any (fun w args=>(Rows.worldOnceSpec.pre enc Tryz.prog Tryz.f5 Rows.worldOnceRow.domain false w args/\laidMetH Tryz.prog Rows.worldOnceRow.laid w)/\sizedMet enc Tryz.prog Tryz.f5 (OpenSpec.ofChange Rows.worldOnceSpec) false w args)
   (Rows.worldOnceSpec.post enc Tryz.prog Tryz.f5 false true false false):=by
 refine returnsInHanded_of_change_and (C:=Tryz.checked) (X:=fun w _=>laidMetH Tryz.prog Rows.worldOnceRow.laid w) (fun _ _ _ hh h=>h.of_heap hh) own started (by kernel_rfl) Tryz.func5
  (ChangeSpec.witness_shaped (enc:=enc) (C:=Tryz.checked) (os:=os) (X:=fun w _=>laidMetH Tryz.prog Rows.worldOnceRow.laid w) false (World.laidAll Tryz.prog os Rows.worldOnceRow.laid) #[.slice none 0 0,.agg #[.int .i64 0,.int .i64 0,.bool false,.string ByteArray.empty,.int .i64 0,.bool false,.string ByteArray.empty,.int .i64 0,.string ByteArray.empty,.string ByteArray.empty,.string ByteArray.empty,.slice none 0 0,.bool false,.string ByteArray.empty,.bool false,.string ByteArray.empty,.string ByteArray.empty,.string ByteArray.empty,.string ByteArray.empty,.int .i64 0,.bool false,.int .i64 0]] 8 (World.laidAll_os _ _ _)
   (World.shaped_of_ZipB (by kernel_rfl) (by kernel_rfl)) (by kernel_rfl) (by kernel_rfl) (by kernel_rfl)
   (by rw[MakeChecks.laidMetH_plain _ _ _ (by kernel_rfl)];exact laidMet_laidAll _ (by kernel_rfl) (by kernel_rfl))) ?_
 intro W base args ds gs before qx hW _ qw hL _;have mz:(DataW.weightsEach Tryz.prog (Tryz.f5.params.toList++Rows.worldOnceSpec.plain.varTypes Tryz.prog) (ds++gs)).all (· <=reachBytes)=true:=qw;clear qw;have hval:∀(j:Nat) t v,Tryz.f5.params[j]?=some t->args[j]?=some v->Value.okWide Tryz.prog W .any base t v:=qx;have hW':=hW;obtain⟨p,q,Qz,hV,rfl,_,_⟩:=hW
 have hA:DataW.TrodAll enc Tryz.prog W 0 (fun _=>true) true Tryz.f5.params.toList args.toList ds p:=Qz;rw[Tryz.params5]at hA hval mz;obtain⟨v0,vs0,d0,ds0,p0,q0,QA,rfl,rfl,h0,r0⟩:=trodAll_cons hA;obtain⟨v1,vs1,d1,ds1,p1,q1,rfl,rfl,rfl,h1,r1⟩:=trodAll_cons r0;obtain⟨rfl,rfl,rfl⟩:=trodAll_nil r1;obtain rfl:args= #[v0,v1]:=by cases args;simp_all
 obtain⟨rfl,rfl⟩:=trodVars_none hV;have k0:=h0;have lt0:∀x∈p0,x.block<W.heap.size:=by obtain⟨m,hm⟩:=k0;exact DataW.trod_lt m _ _ _ hm
 obtain⟨ss0,sO⟩:=mY (hval 0 22 v0 rfl rfl) h0 (jY mz (j:=0) (t:=22) rfl rfl);have k1:=h1;have lt1:∀x∈p1,x.block<W.heap.size:=by obtain⟨m,hm⟩:=k1;exact DataW.trod_lt m _ _ _ hm
 obtain⟨o1,ss1,rfl,vD⟩:=mh (hval 1 33 v1 rfl rfl) h1 (jY mz (j:=1) (t:=33) rfl rfl);clear Qz qx;rw[MakeChecks.laidMetH_plain _ _ _ (by kernel_rfl)]at hL;have tb0:=ot hL (by refine⟨?_,?_⟩<;>repeat(first|exact True.intro|exact List.Mem.head _|refine List.Mem.tail _ ?_));have tb1:=mR hL (by refine⟨?_,?_⟩<;>repeat(first|exact True.intro|exact List.Mem.head _|refine List.Mem.tail _ ?_))
 have tb2:=mS hL (by refine⟨?_,?_⟩<;>repeat(first|exact True.intro|exact List.Mem.head _|refine List.Mem.tail _ ?_));have tb3:=om hL (by refine⟨?_,?_⟩<;>repeat(first|exact True.intro|exact List.Mem.head _|refine List.Mem.tail _ ?_));refine(zc _ ss0 o1 ss1  W sO vD tb0 tb1 tb2 tb3).mono fun e W' ⟨he,jE⟩=>?_;subst he
 exact⟨_,rfl,_,_,_,[],_,[],hW',trodAll_mk1 (shut_bool Tryz.underlying4 _),(trodAll_cons_mk (Below.trod laidOut (by kernel_rfl) (of_decide_eq_true (by kernel_rfl)) k0 jE lt0) (trodAll_cons_mk (Below.trod laidOut (by kernel_rfl) (of_decide_eq_true (by kernel_rfl)) k1 jE lt1) trodAll_mk0)),rfl,jE.frame _,fun h=>by cases h⟩
end Go.Proofs.YtjdmjbdkdmbaiaaGreatDoor.worldOnce
