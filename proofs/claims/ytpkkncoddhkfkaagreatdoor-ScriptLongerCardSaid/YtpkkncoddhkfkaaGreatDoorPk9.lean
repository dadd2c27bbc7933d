/- TbStep, TbStory, TbStpd. -/
import Derived.Test.YtpkkncoddhkfkaaGreatDoorPk8
set_option maxRecDepth 100000
set_option maxHeartbeats 16000000
set_option linter.unusedSimpArgs false
namespace Go.Proofs.YtpkkncoddhkfkaaGreatDoor
open Go.Proofs.Tryz
open Go.RowKit
section
variable {xw : Option (Nat × bu)} {a U U' : World} {T : Nat} {t : cX}
theorem ud(h:aI xw a U T t)(n:Int){k:Int}(hk:k+2<=1000000)(hf:cJ k t)(hl:t.cI.length<1000000)(rh:∀i,i<6->(t.tab i).does=2->FO a (t.tab i).seen (t.tab i).op) :
  Calls prog 13 #[.pointer (some ⟨T,0,none⟩),.int .i64 n] U (fI xw a U T (dW t n)):=by
 obtain⟨x1,dT⟩:∃x1,x1=U.alloc (.cells #[.int .i64 0,.string ⟨#[]⟩,.int .i64 0] 51):=⟨_,rfl⟩;have dt:Fr aU U x1:=by rw[dT];exact(Fr.refl aU U).alloc _
 have FP:x1.heap[U.heap.size]?=some (.cells bG 51 (0,0)):=by rw[dT];exact aB _ _
 obtain⟨R,hR⟩:∃R,R=U.heap.size:=⟨_,rfl⟩;rw[<-hR]at FP;have KR:=O FP;have HR:=O hR;have HX:=O dT;have xJ:=O (a_ dt);have uP:=O (show U.heap.size<=R from ab);have uQ:=O (show a.heap.size<=R by have:=h.fr.size;omega);have h1:=h.dv dt;have H1:=O h1;have HF:=O hf;have HK:=O hk;clear dT FP hR;cases hn:nk n
 ·as_aux_lemma =>
   have HE:=O (show dW t n=(t,rep 0,false,2)by unfold dW;rw[hn];rfl);have HC:=O (pY x1 T hn);clear hn h h1 hf hk hl rh dt;go_enter func13,ntmps13;go_wp2_with fail
   rw[<-HX.o, <-HR.o];refine HC.o.mono ?_;rintro e u⟨rfl,rfl⟩;unfold kG;go_wp2_with (first|((with_reducible refine dm 51 ?_);go_must(refine wpList_store_row rfl 51 (.tmp 4) (.tmp 17) rfl R #[.int .i64 0,.string ⟨#[]⟩,.int .i64 0] rfl rfl _ bG KR.o (aX _ rfl) rfl bN ?_))|fail)
   refine bodyPost_ret (cL bq _ _ R 51 #[.int .i64 0,.string ⟨#[]⟩,.int .i64 0] (0,0) _ rfl (setRow_heap _ R _ _ _ _ KR.o) underlying51 rfl (aX _ rfl)) rfl ?_;rw[HE.o];exact step_end H1.o xJ.o uP.o uQ.o KR.o _ rfl
 ·obtain⟨i,rfl,hi⟩:=pX hn;have e1:((i:Int)).toNat=i:=rfl;have HC:=O (tj x1 T hi);have HI:=O hi;obtain⟨cd,mm,ue, -, -⟩:=h1.cells hi;have DL:=hf.does i;by_cases hd:(t.tab i).does=0
  ·as_aux_lemma =>
    have HE:=O (show dW t (i:Int)=(t,rep 0,false,8)by unfold dW;rw[hn,aq rfl,e1,aq hd]);rw[hd]at cd;clear hn h h1 hf hk hl rh dt hd DL hi mm ue;go_enter func13,ntmps13;go_wp2_with fail
    rw[<-HX.o, <-HR.o];refine HC.o.mono ?_;rintro e u⟨rfl,rfl⟩;go_wp2_with (first|((with_reducible refine dm 51 ?_);go_must(refine wpList_store_row rfl 51 (.tmp 4) (.tmp 39) rfl R #[.int .i64 0,.string ⟨#[]⟩,.int .i64 0] rfl rfl _ bG KR.o (aX _ rfl) rfl bN ?_))|fail)
    refine bodyPost_ret (cL bq _ _ R 51 #[.int .i64 0,.string ⟨#[]⟩,.int .i64 0] (0,0) _ rfl (setRow_heap _ R _ _ _ _ KR.o) underlying51 rfl (aX _ rfl)) rfl ?_;rw[HE.o];exact step_end H1.o xJ.o uP.o uQ.o KR.o _ rfl
  ·rcases(show(t.tab i).does=1\/(t.tab i).does=2\/(t.tab i).does=3 from ab)with B9|iP|xH
   ·skip
    have HE:=O (show dW t (i:Int)=({(t.put i {t.tab i with seen:=t.w,num:=t.num,does:=2})with steps:=t.steps+1},rep 0,false,0)by unfold dW;rw[hn,aq rfl,e1,aj hd,step1 B9]);rw[B9]at cd;have Ke:x1.drew.heap[R]?=some (.cells bG 51 (0,0)):=KR.o;have h2:=h1.dv (Fr.drew (Fr.refl aU x1));obtain⟨B,g,sv,sb,p1,p2,p3,p4⟩:=h2.ex;obtain⟨pv,hw⟩:=p2.at (i:=6) (B:=B) (x:=t.w) rfl
    have rz:=O (iX _ _ _ _ _ hw hf.inv.my);have xA:=O (fun U' C qv hF hc hn=>re (U':=U') (C:=C) (qv:=qv) hi p1 p2 p3 p4 ab h2.low h2.fr hF hc hn);have H':=O p1;have m0:=p1.main;have mn:=p1.num;clear hn h h1 hf hk hl rh dt hd DL hi mm ue hw p1 p2 p3 p4 h2 Ke;go_enter func13,ntmps13;go_wp2_with fail
    rw[<-HX.o, <-HR.o];refine HC.o.mono ?_;rintro e u⟨rfl,rfl⟩;go_wp2_with fail
    refine wp_region_held_drew (S:=(fun V=>V.cell? ⟨T,0,none⟩=some (.pointer (some ⟨B,0,none⟩))/\V.rangeAt T 1 (dh t.num))) af (by exact⟨m0,mn⟩) ?_;intro rA;refine aA 0 43 rfl ?_
    try simp only[Act.put,sA,sB,sC]
    refine aA 1 44 rfl ?_
    try simp only[Act.put,sA,sB,sC]
    refine aA 2 45 rfl ?_
    try simp only[Act.put,sA,sB,sC]
    refine aA 3 46 rfl ?_
    try simp only[Act.put,sA,sB,sC]
    refine aA 4 47 rfl ?_
    try simp only[Act.put,sA,sB,sC]
    refine aA 5 48 rfl ?_
    try simp only[Act.put,sA,sB,sC]
    refine aA 6 49 rfl ?_
    try simp only[Act.put,sA,sB,sC]
    refine aA 8 51 rfl ?_
    try simp only[Act.put,sA,sB,sC]
    refine aA 9 52 rfl ?_
    try simp only[Act.put,sA,sB,sC]
    refine aA 10 53 rfl ?_
    try simp only[Act.put,sA,sB,sC]
    refine hG 11 54 rfl (yieldsIf_load_mid bq 67 (.tmp 53) rfl T 1 rfl (dh t.num) _ (fun w hw=>hw.2) underlying67 rfl af) ?_
    try simp only[Act.put,sA,sB,sC]
    refine dr 7 rfl fun K hK=>?_;go_simp;refine rz.o.mono ?_;rintro e u2⟨C,qv,rfl,hc,qq,Ia⟩;have q:=xA.o u2 C qv qq hc Ia;obtain⟨q1,q2,q3,q4,q5⟩:=q;have xF:=O q1;have yR:=O q2;have Ar:=O q5;have b2:=H'.o.fr qq (fun h=>h);have d25:u2.cell? ⟨T,17+i*45+25,none⟩=some (g i).sp:=b2.tab i HI.o 25 _ rfl;have f25:=b2.free (17+i*45+25);have yD:=O b2;have Ib:=O qq;rw[B9]at q3
    have HS:=O (show u2.cell? ⟨T,0,none⟩=some (.pointer (some ⟨B,0,none⟩))/\u2.rangeAt T 1 (dh t.num)from⟨b2.main,b2.num⟩);refine hK.out _ _ HS.o ?_;intro rB;clear hK K q1 q2 q5 hc qq Ia b2
    try simp only[Act.put,sA,sB,sC]
    refine aA 12 55 rfl ?_
    try simp only[Act.put,sA,sB,sC]
    refine aA 13 56 rfl ?_
    try simp only[Act.put,sA,sB,sC]
    clear rA rB;refine dr 14 rfl fun K hK=>?_;go_simp;have uB:(u2.setCell ⟨T,17+i*45+25,none⟩ (.pointer (some ⟨C,0,none⟩))).cell? ⟨T,0,none⟩=some (.pointer (some ⟨B,0,none⟩))/\(u2.setCell ⟨T,17+i*45+25,none⟩ (.pointer (some ⟨C,0,none⟩))).rangeAt T 1 (dh t.num):=⟨bl (vs:=[_]) HS.o.1 (Or.inl ab),hM HS.o.2 (by rw[dX];omega)⟩;refine hK.out _ _ uB ?_;intro vZ;clear hK K d25 f25 vZ
    generalize u2.setCell ⟨T,17+i*45+25,none⟩ (.pointer (some ⟨C,0,none⟩))=u3 at *
    try simp only[Act.put,sA,sB,sC]
    refine aA 15 57 rfl ?_
    try simp only[Act.put,sA,sB,sC]
    refine aA 16 58 rfl ?_
    try simp only[Act.put,sA,sB,sC]
    refine wpAnyH_ready (rs:=[17]) af aK ?_;refine AllReadyH.cons (o:=⟨none,_,_,_,_,_⟩) rfl (fun K hK=>?_) AllReadyH.nil;refine fk rfl 67 (.tmp 58) (.tmp 54) rfl T (17+i*45+26) (dh t.num).toArray rfl rfl Ar.o af (ub t.num) ?_
    have js:(u3.setCells T (17+i*45+26) (dh t.num)).cell? ⟨T,0,none⟩=some (.pointer (some ⟨B,0,none⟩))/\(u3.setCells T (17+i*45+26) (dh t.num)).rangeAt T 1 (dh t.num):=⟨bl uB.1 (Or.inl ab),World.rangeAt_setCells_apart uB.2 T _ _ (Or.inr (Or.inl (by rw[dX];omega)))⟩;refine hK.out _ _ js ?_;intro Cy;clear hK K Cy uB;rw[show(dh t.num).toArray.toList=dh t.num from rfl]
    generalize u3.setCells T (17+i*45+26) (dh t.num)=u4 at *
    try simp only[Act.put,sA,sB,sC]
    refine aA 18 59 rfl ?_
    try simp only[Act.put,sA,sB,sC]
    refine aA 19 60 rfl ?_
    try simp only[Act.put,sA,sB,sC]
    refine wpAnyH_ready (rs:=[20]) af aK ?_;have DM:=q4 (17+i*45);have CJ:=O js;clear q4;have Co:u4.there T (17+i*45) 1:=fun j hj=>by
     have e:j=0:=ab;subst e;exact⟨by rw[Nat.add_zero,q3];rfl,DM⟩
    refine AllReadyH.cons (o:=⟨none,_,_,_,_,_⟩) rfl (fun K hK=>?_) AllReadyH.nil;refine kp rfl 3 (.tmp 60) _ rfl T (17+i*45) (.int .i64 2) rfl rfl rfl Co af rfl ?_;have js:=CJ.o
    have xM:(u4.setCell ⟨T,17+i*45,none⟩ (.int .i64 2)).cell? ⟨T,0,none⟩=some (.pointer (some ⟨B,0,none⟩))/\(u4.setCell ⟨T,17+i*45,none⟩ (.int .i64 2)).rangeAt T 1 (dh t.num):=⟨bl (vs:=[_]) js.1 (Or.inl ab),hM js.2 (by rw[dX];omega)⟩;refine hK.out _ _ xM ?_;intro Cz;clear hK K Cz xM js CJ q3 DM Co;generalize u4.setCell ⟨T,17+i*45,none⟩ (.int .i64 2)=u5 at *
    try simp only[Act.put,sA,sB,sC]
    refine wpAnyH_done af ?_ _;generalize (dh t.num).toArray=nn;have CK:bS U u5:=by
     obtain⟨c,hc,_⟩:=yD.o.cR;exact(xJ.o.trans (a_ ((Fr.drew (Fr.refl aU u)).trans Ib.o))).tabs hc yR.o
    have qM:u5.heap[R]?=some (.cells bG 51 (0,0)):=by
     obtain⟨c,hc,_⟩:=yD.o.cR;refine(((bS.refl u).trans (a_ ((Fr.drew (Fr.refl aU u)).trans Ib.o))).tabs hc yR.o).block KR.o fi
    obtain⟨-, mm,ue, -, -⟩:=xF.o.cells HI.o;have cf:=ue 287;have s1:=HF.o.steps.1;have s2:=HF.o.steps.2;have Kf:=HK.o;have CM:u5.cell? ⟨T,287,none⟩=some (.int .i64 t.steps):=mm;obtain⟨xS,uf⟩:=xF.o.tick (t.steps+1);have FQ:=O xS;obtain⟨cT,mj⟩:=xF.o.kind;have CH:=O (CK.tabs mj uf);have mB:=O (uf.keep qM (fun e=>by cases(show R=T from e);rw[mj]at qM;cases qM));clear xS uf CK qM mj mm ue
    go_wp2_with (first|((with_reducible refine dm 51 ?_);go_must(refine wpList_store_row rfl 51 (.tmp 4) (.tmp 85) rfl R #[.int .i64 0,.string ⟨#[]⟩,.int .i64 0] rfl rfl _ bG mB.o (aX _ rfl) rfl bN ?_))|fail)
    refine bodyPost_ret (cL bq _ _ R 51 #[.int .i64 0,.string ⟨#[]⟩,.int .i64 0] (0,0) _ rfl (setRow_heap _ R _ _ _ _ mB.o) underlying51 rfl (aX _ rfl)) rfl ?_;rw[HE.o];exact step_end FQ.o CH.o uP.o uQ.o mB.o _ rfl
   ·as_aux_lemma =>
     have HE:=O (show dW t (i:Int)=({(t.put i {t.tab i with cP:=(fX (t.tab i).seen (t.tab i).op).2,seen:=(fX (t.tab i).seen (t.tab i).op).1,does:=3})with steps:=t.steps+1},rep 0,false,0)by unfold dW;rw[hn,aq rfl,e1,aj hd,step2 iP]);rw[iP]at cd;have h2:=h1.dv (Fr.drew (Fr.refl aU x1));obtain⟨B,g,sv,sb,p1,p2,p3,p4⟩:=h2.ex;obtain⟨Ic,go2⟩:=((p4 i hi).1 ab).fits;have zG:=(p4 i hi).2 (Or.inl iP)
     have FR:=O (aI.seen hi (Or.inl iP) p1 p2 p3 p4 h2.low h2.fr (x':=(fX (t.tab i).seen (t.tab i).op).1) (fun pv hw=>by
      exact rh i hi iP _ _ pv _ _ go2 hw h2.fr Ic))
     have Ie:=O (fun U' q1 q2 q3 q4 q5=>rf (U:=U') (B:=B) (xw:=xw) (a:=a) (g:=g) (sv:=sv) (sb:=sb) (x':=(fX (t.tab i).seen (t.tab i).op).1) (fX (t.tab i).seen (t.tab i).op).2 hi q1 q2 q3 q4 (fun n hn=>(p4 n hn).2) iP h2.low q5);have DH:x1.drew.cell? ⟨T,17+i*45+25,none⟩=some (.pointer (some ⟨sb i,0,none⟩)):=by rw[<-zG];exact p1.tab i hi 25 _ rfl
     have Ig:x1.drew.rangeAt T (17+i*45+1) (g i).o.cells:=ep (p:=[.int .i64 (t.tab i).does]) (q:=(g i).o.cells) (p1.tab i hi);have wN:=O zG;have FT:=O (show(g i).o.cells.length=22 from rfl);have H':=O p1;obtain⟨r,hr⟩:∃r,r=(fX (t.tab i).seen (t.tab i).op).2:=⟨_,rfl⟩;rw[<-hr]at FR Ie HE;obtain⟨oc,qG⟩:∃oc,oc=(g i).o.cells:=⟨_,rfl⟩;have Kg:=O qG;rw[<-qG]at FR Ig FT
     clear hn h h1 hf hk hl rh dt hd DL hi mm ue p1 p2 p3 p4 h2 zG Ic go2 hr qG;go_enter func13,ntmps13;go_wp2_with fail
     rw[<-HX.o, <-HR.o];refine HC.o.mono ?_;rintro e u⟨rfl,rfl⟩;go_wp2_with fail
     refine wp_region_held_drew (S:=(fun V=>V.cell? ⟨T,17+i*45+25,none⟩=some (.pointer (some ⟨sb i,0,none⟩))/\V.rangeAt T (17+i*45+1) oc)) af (by exact⟨DH,Ig⟩) ?_;intro rA;refine aA 0 63 rfl ?_
     try simp only[Act.put,sA,sB,sC]
     refine aA 1 64 rfl ?_
     try simp only[Act.put,sA,sB,sC]
     refine aA 2 65 rfl ?_
     try simp only[Act.put,sA,sB,sC]
     refine aA 3 66 rfl ?_
     try simp only[Act.put,sA,sB,sC]
     refine aA 4 67 rfl ?_
     try simp only[Act.put,sA,sB,sC]
     refine aA 5 68 rfl ?_
     try simp only[Act.put,sA,sB,sC]
     refine aA 6 69 rfl ?_
     try simp only[Act.put,sA,sB,sC]
     refine aA 7 70 rfl ?_
     try simp only[Act.put,sA,sB,sC]
     refine aA 8 71 rfl ?_
     try simp only[Act.put,sA,sB,sC]
     refine hG 9 72 rfl (yieldsIf_load_mid bq 35 (.tmp 71) rfl T (17+i*45+1) rfl oc _ (fun w hw=>hw.2) underlying35 rfl (by rw[FT.o];kernel_rfl)) ?_
     try simp only[Act.put,sA,sB,sC]
     refine dr 10 rfl fun K hK=>?_;go_simp;refine FR.o.mono ?_;rintro e u2⟨rfl,⟨y1,y2,y3,y4,y5⟩,y6⟩;obtain⟨q1,q2,q3,q4,q5⟩:=Ie.o u2 y1 y2 y3 y4 y5;have xF:=O q1;have yR:=O q2;have Ar:=O q5;have yD:=O y1;have Ih:=O (bS.oF y6);rw[iP]at q3
     have HS:=O (show u2.cell? ⟨T,17+i*45+25,none⟩=some (.pointer (some ⟨sb i,0,none⟩))/\u2.rangeAt T (17+i*45+1) oc from⟨by rw[<-wN.o];exact y1.tab i HI.o 25 _ rfl,by rw[Kg.o];exact ep (p:=[.int .i64 (t.tab i).does]) (q:=(g i).o.cells) (y1.tab i HI.o)⟩);refine hK.out _ _ HS.o ?_;intro rB;clear hK K q1 q2 q5 y1 y2 y3 y4 y5 y6 rA rB
     try simp only[Act.put,sA,sB,sC]
     refine aA 11 74 rfl ?_
     try simp only[Act.put,sA,sB,sC]
     refine aA 12 75 rfl ?_
     try simp only[Act.put,sA,sB,sC]
     refine wpAnyH_ready (rs:=[13]) af aK ?_;refine AllReadyH.cons (o:=⟨none,_,_,_,_,_⟩) rfl (fun K hK=>?_) AllReadyH.nil;refine fk rfl 51 (.tmp 75) (.tmp 73) rfl T (17+i*45+42) (eL r).toArray rfl rfl Ar.o af (ua r) ?_
     have js:(u2.setCells T (17+i*45+42) (eL r)).cell? ⟨T,17+i*45+25,none⟩=some (.pointer (some ⟨sb i,0,none⟩))/\(u2.setCells T (17+i*45+42) (eL r)).rangeAt T (17+i*45+1) oc:=⟨bl HS.o.1 (Or.inl ab),World.rangeAt_setCells_apart HS.o.2 T _ _ (Or.inr (Or.inl (by rw[FT.o];omega)))⟩;refine hK.out _ _ js ?_;intro Cy;clear hK K Cy;rw[show(eL r).toArray.toList=eL r from rfl]
     generalize u2.setCells T (17+i*45+42) (eL r)=u4 at *
     try simp only[Act.put,sA,sB,sC]
     refine aA 14 76 rfl ?_
     try simp only[Act.put,sA,sB,sC]
     refine aA 15 77 rfl ?_
     try simp only[Act.put,sA,sB,sC]
     refine wpAnyH_ready (rs:=[16]) af aK ?_;have DM:=q4 (17+i*45);have CJ:=O js;clear q4 js;refine AllReadyH.cons rfl (fun K hK=>?_) AllReadyH.nil;go_simp;have js:=CJ.o
     have xM:(u4.setCell ⟨T,17+i*45,none⟩ (.int .i64 3)).cell? ⟨T,17+i*45+25,none⟩=some (.pointer (some ⟨sb i,0,none⟩))/\(u4.setCell ⟨T,17+i*45,none⟩ (.int .i64 3)).rangeAt T (17+i*45+1) oc:=⟨bl (vs:=[_]) js.1 (Or.inr (by show 17+i*45+1<=_;omega)),World.rangeAt_setCells_apart js.2 T (17+i*45) [_] (Or.inr (Or.inr (by show 17+i*45+1<=_;omega)))⟩;refine hK.out _ _ xM ?_;intro Cz
     clear hK K Cz xM js CJ q3 DM;generalize u4.setCell ⟨T,17+i*45,none⟩ (.int .i64 3)=u5 at *
     refine wpAnyH_done af ?_ _;have CK:bS U u5:=by
      obtain⟨c,hc,_⟩:=yD.o.cR;exact(xJ.o.trans ((a_ (Fr.drew (Fr.refl aU u))).trans Ih.o)).tabs hc yR.o
     have qM:u5.heap[R]?=some (.cells bG 51 (0,0)):=by
      obtain⟨c,hc,_⟩:=yD.o.cR;refine(((bS.refl u).trans ((a_ (Fr.drew (Fr.refl aU u))).trans Ih.o)).tabs hc yR.o).block KR.o fi
     obtain⟨-, mm,ue, -, -⟩:=xF.o.cells HI.o;have cf:=ue 287;have s1:=HF.o.steps.1;have s2:=HF.o.steps.2;have Kf:=HK.o;have CM:u5.cell? ⟨T,287,none⟩=some (.int .i64 t.steps):=mm;obtain⟨xS,uf⟩:=xF.o.tick (t.steps+1);have FQ:=O xS;obtain⟨cT,mj⟩:=xF.o.kind;have CH:=O (CK.tabs mj uf);have mB:=O (uf.keep qM (fun e=>by cases(show R=T from e);rw[mj]at qM;cases qM));clear xS uf CK qM mj mm ue
     go_wp2_with (first|((with_reducible refine dm 51 ?_);go_must(refine wpList_store_row rfl 51 (.tmp 4) (.tmp 85) rfl R #[.int .i64 0,.string ⟨#[]⟩,.int .i64 0] rfl rfl _ bG mB.o (aX _ rfl) rfl bN ?_))|fail)
     refine bodyPost_ret (cL bq _ _ R 51 #[.int .i64 0,.string ⟨#[]⟩,.int .i64 0] (0,0) _ rfl (setRow_heap _ R _ _ _ _ mB.o) underlying51 rfl (aX _ rfl)) rfl ?_;rw[HE.o];exact step_end FQ.o CH.o uP.o uQ.o mB.o _ rfl
   ·as_aux_lemma =>
     have HE:=O (show dW t (i:Int)=((cV {t with steps:=t.steps+1} i).1,(cV {t with steps:=t.steps+1} i).2.1,(cV {t with steps:=t.steps+1} i).2.2,0)by unfold dW;rw[hn,aq rfl,e1,aj hd,CI xH]);rw[xH]at cd;have cf:=ue 287;have s1:=hf.steps.1;have s2:=hf.steps.2;obtain⟨xS,uf⟩:=h1.tick (t.steps+1);obtain⟨cT,mj⟩:=h1.kind;have Kh:=O (pj xS hi xH (show k+1<1000000 from ab) hf.tick hl)
     have xR:=O ((a_ dt).tabs mj uf);have l7:=O (uf.keep KR.o (fun e=>by
      cases(show R=T from e);have:=KR.o;rw[mj]at this;cases this))
     clear hn h h1 hf hl rh dt hd DL hi ue xS uf mj;go_enter func13,ntmps13;go_wp2_with fail
     rw[<-HX.o, <-HR.o];refine HC.o.mono ?_;rintro e u⟨rfl,rfl⟩;go_wp2_with fail
     refine Kh.o.mono ?_;rintro e w6⟨rfl,z1,z2⟩;have uR:=O z1;have zF:=O z2;have FU:=O (z2.block l7.o fi);clear z1 z2;generalize cV {t with steps:=t.steps+1} i=cr at *
     go_wp2_with (first|((with_reducible refine dm 51 ?_);go_must(refine wpList_store_row rfl 51 (.tmp 4) (.tmp 34) rfl R #[.int .i64 cr.2.1.what,.string cr.2.1.head,.int .i64 cr.2.1.cert] rfl rfl _ bG FU.o (aX _ rfl) rfl bN ?_))|fail)
     refine bodyPost_ret (cL bq _ _ R 51 #[.int .i64 cr.2.1.what,.string cr.2.1.head,.int .i64 cr.2.1.cert] (0,0) _ rfl (setRow_heap _ R _ _ _ _ FU.o) underlying51 rfl (aX _ rfl)) rfl ?_;rw[HE.o];exact step_end uR.o (xR.o.trans zF.o) uP.o uQ.o FU.o _ rfl
end
section
variable {xw : Option (Nat × bu)} {a U U' : World} {T : Nat} {t : cX}
def ug(U:World)(es:List (sU×(dK×List dP)))(l i:Value)(wr:World):Prop :=
 ∃k:Nat,k<=es.length/\i=.int .i64 k/\Fr aU U wr/\∃fs:List (sU×(dK×List dP)),fs.map (·.1)=(es.take k).map (·.1)/\OwnRows U.heap.size 80 28 wr l (fs.map nz)/\∀x∈fs,bW U.heap.size wr x.2 x.1.op
theorem uh:(prog.info? 80).map (·.zero)=some (some (.agg kl)):=af
theorem mo:(prog.info? 80).map (·.size)=some 28:=af
theorem wO{l:List Value}(h:∀u∈l,u.oneCell'=true):l.toArray.all (·.oneCell')=true:=all_oneCell_toArray h
theorem wP{w9:World}{N:Nat}{ev:sU}{o:dK}{nh:Nat}{ah:Option Addr}{ch:Nat}(a9:Option Addr)(c9:Nat){y:List Value}{i0:TypeInfo}(gK:i0.size=28)(hy:y=rJ ev.tab o ah nh ch ev.cP ev.dZ ev.fin)(k9:w9.heap[N]?=some (.cells y.toArray 80 (0,0))){base:Nat}{wr:World}{v:Value}{xs:List (List Value)}(hF:Fr aU wr w9)(hN:N=wr.heap.size)(ho:OwnRows base 80 28 wr v xs) :
  ∃(y2:List Value) (W3:World),y2=rJ ev.tab o a9 nh c9 ev.cP ev.dZ ev.fin/\W3=w9.setCell ⟨N,12,none⟩ (.slice a9 nh c9)/\W3.heap[N]?=some (.cells y2.toArray 80 (0,0))/\Fr (one N) w9 W3/\y2.length=28/\(∀u∈y2,u.oneCell'=true)/\Instr.fill (fun i=>some (i*i0.size,i0.size)) ((Array.range (1*i0.size)).map ((Value.agg kl).cells[· %(Value.agg kl).cells.size]!)) [(0,.agg y2.toArray)]=some y2.toArray/\OwnRows base 80 28 W3 v xs:=by
 have rH:Fr (one N) w9 (w9.setCell ⟨N,12,none⟩ (.slice a9 nh c9)):=(Fr.refl (one N) _).setCell (p:=⟨N,12,none⟩) (fun _=>rfl) _;refine⟨_,_,rfl,rfl,?_,rH,rfl,mf _ _ _ _ _ _ _ _,by rw[gK];exact o_ _ _ _ _ _ _ _ _,(ho.fr hF (fun _ _ h=>h)).fr rH (fun b hb e=>?_)⟩
 ·rw[ba k9,hy];rfl
 ·have:=ho.lt b hb;have e':b=N:=e;omega
theorem ri(h:aI xw a U T t)(hl:t.cI.length<1000000) :
  Calls prog 14 #[.pointer (some ⟨T,0,none⟩)] U fun e w'=>∃sv,e=.returned sv/\eQ U.heap.size w' sv t.cI/\Fr aU U w':=by
 obtain⟨B,g,sv,sb,h1,h2,⟨es,wB,fA,fp⟩,h4⟩:=h.ex;obtain⟨wC,wD,tL⟩:=fA.form;rw[ag]at tL;subst tL;have Fw:es.length<1000000:=by rw[<-ag (f:=(·.1)),wB];exact hl
 have Ki:=O (fun V (hV:Fr aU U V)=>bK fA.at hV);have DN:=O (fun V (hV:Fr aU U V) x (hx:x∈es)=>(fp x hx).kept (cK hV));have CN:=h1.st;obtain⟨i0,qa,kO,gK,mv⟩:=info_parts mg;have Fx:=O wB;clear h h1 h2 h4 wB fA fp;go_enter func14,ntmps14
 go_wp2_with (at_make
              refine wpList_make_own _ rfl _ _ 54 rfl U.heap.size 80 i0 (.agg kl) 28 underlying54 qa kO gK .i64 .i64 _ es.length rfl rfl rfl (by rw[mv];omega) fS (ar _) ?_
              intro w1 p9 CO
              have yC:Fr aU U w1:=Fr.grown (Fr.refl _ _) CO (fun k hk=>by cases hk)
              have CP:=ed CN yC (fun h=>h))
 go_loopw[3,17] (ug U es) (fun _ i _=>es.length-(intOf i).toNat)
 case atStart=>exact⟨0,az _,rfl,yC,[],rfl,⟨aK,p9⟩,aK⟩
 case round =>
  obtain⟨k,hk,rfl,hF,fs,ji,bO,fp⟩:=hrel;obtain⟨al,cl,Ii⟩:=bO.form;rw[ag]at Ii;subst Ii;clear CP yC p9 CO CN;by_cases h_:k<es.length
  ·have lx:=Ki.o wr hF;rcases lx.2 with ⟨_,_,_,e,_⟩|⟨bk,o0,c,hf,g1,g2,g3,g4⟩
   ·have:es=[]:=by simpa using e
    subst this;exact absurd h_ (bm _)
   ·rw[ag]at hf;cases hf;have hx:=List.getElem?_eq_getElem h_;generalize es[k]=x at hx;have ui:x∈es:=aR hx;have hr:wr.rangeAt bk (o0+k*28) (nz x):=fun j v hj=>g4 k (nz x) (by rw[List.getElem?_map,hx];rfl) j v hj;have FV:=O (fun V (hV:Fr aU U V)=>DN.o V hV x ui);obtain⟨ev,o,hs⟩:=x;have FW:=FV.o wr hF;obtain⟨ah,ch,hh⟩:=FW.own.form;rw[ag]at hh;have Lg:hs.length<100000:=FW.fit.ak.2.1
    have Kj:=O (show(es.take (k+1)).map (·.1)=(es.take k).map (·.1)++[ev]by rw[cC,hx];simp);obtain⟨y,hy⟩:∃y,y=nz (ev,(o,hs)):=⟨_,rfl⟩;rw[<-hy]at hr;have Ij:y=rJ ev.tab o ah hs.length ch ev.cP ev.dZ ev.fin:=hy.trans (mb hh ev.op ev.cP ev.dZ ev.fin);have HY:=O Ij;have nP:=O (show y.length=28 by rw[hy];rfl)
    have xE:=O (show∀u∈y,u.oneCell'=true by rw[hy,show nz (ev,(o,hs))=rJ ev.tab o ah hs.length ch ev.cP ev.dZ ev.fin from mb hh ev.op ev.cP ev.dZ ev.fin];exact mf _ _ _ _ _ _ _ _);have HR:=O hr;have DP:=O hh;have jr:=O bO;have we:=O fp;have HF:=O hF;have Ik:=O ji;obtain⟨N,hN⟩:∃N,N=wr.heap.size:=⟨_,rfl⟩;have Fc:U.heap.size<=N:=by have:=hF.size;omega
    have rF:=O (show(wr.alloc (.cells kl 80)).heap[N]?=some (.cells kl 80 (0,0))from by rw[hN];exact aB _ _);have HN:=O hN;have Lh:k<es.length:=h_;clear lx hr hx hy Ij hh FW bO fp hF ji hN g4;go_wp2_with (first
     |((with_reducible refine dp ⟨some 20,_,_,_,_,_⟩ ?_)
       go_must(refine wpList_load_mid rfl 80 (.tmp 19) rfl bk (o0+k*28) rfl y _ HR.o underlying80 rfl (by rw[nP.o];exact mo) ?_)
       go_must(refine dE rfl 80 rfl (some 5) rfl kl uh N HN.o.symm ?_)
       go_must(refine wpList_store_row rfl 80 (.tmp 5) (.tmp 20) rfl N y.toArray rfl rfl 80 kl rF.o (by rw[bb,nP.o];exact mo) (by have e:y.toArray.size=y.length:=rfl;rw[e,nP.o];rfl) (wO xE.o) ?_)
       have DQ:Fr aU U ((wr.alloc (.cells kl 80)).setRow N y.toArray):=fH (HF.o.alloc _) Fc _
       have Il:Fr aU wr ((wr.alloc (.cells kl 80)).setRow N y.toArray):=fH ((Fr.refl aU wr).alloc _) (by rw[HN.o];exact ar _) _
       have kW:((wr.alloc (.cells kl 80)).setRow N y.toArray).heap[N]?=some (.cells y.toArray 80 (0,0)):=gI rF.o
       generalize (wr.alloc (.cells kl 80)).setRow N y.toArray=W1 at *
       have z12:W1.cell? ⟨N,12,none⟩=some (.slice ah hs.length ch):=by
         simp only[World.cell?,kW,HY.o]
         rfl
       have DC:=O (show lF W1 (.slice ah hs.length ch) hs from by
         have q:=(FV.o W1 DQ).fit.bo
         rw[DP.o]at q
         exact q)
       have EA:U.heap.size<=W1.heap.size:=DQ.size)
     |(at_builtin
       refine iu rfl _ _ rfl U.heap.size _ [] rfl (aV _ _ _ _) _ (hs.map dP.cells) rfl DC.o cw EA ?_
       intro v9 w9 gX wx
       rw[bz]at gX
       obtain⟨a9,c9,Cw⟩:=gX.form
       rw[ag]at Cw
       subst Cw
       have rG:Fr aU W1 w9:=Fr.grown (Fr.refl _ _) wx (fun k hk=>by cases hk)
       have k9:=rG.keep kW (fun h=>h)
       have z9:w9.cell? ⟨N,12,none⟩=some (.slice ah hs.length ch):=ed z12 rG (fun h=>h)
       have Kk:w9.frozen? ⟨N,12,none⟩=false:=by simp[World.frozen?,k9])
     |((with_reducible refine dp ⟨some 30,_,_,_,_,_⟩ ?_)
       go_must(obtain⟨y2,W3,Im,Ip,Iq,rH,zI,xT,xU,gP⟩:=wP a9 c9 gK HY.o k9 (Il.trans rG) HN.o jr.o)
       have Kl:=O Im
       have Km:=k9
       go_must(clear Im z12 z9 Kk k9)
       go_must(rw[<-Ip])
       go_must(refine wpList_load_row rfl 80 (.tmp 5) rfl N rfl _ y2.toArray (0,0) _ Iq underlying80 rfl (by rw[bb,zI];exact mo) ?_)
       go_must(refine gV rfl 54 80 1 _ rfl (some 31) rfl y2.toArray i0 (.agg kl) [(0,.agg y2.toArray)] (by simp only[bF,bp,bQ];rfl) underlying54 qa kO (by rw[gK];decide) (by rw[gK];decide) xU W3.heap.size rfl ?_)
       have JK:U.heap.size<=W3.heap.size:=au EA (au rG.size rH.size)
       clear xU)
     |(at_builtin
       go_must(refine fM rfl _ _ 54 80 rfl 28 328 (.agg kl) underlying54 mg rfl ae ae U.heap.size (.slice al fs.length cl) (fs.map nz) rfl (gP.alloc _) W3.heap.size 1 y2 rfl zI xT (fun i u hi=>by rw[World.cell?_alloc_mark];simpa using hi) (by rw[ag];have q:=ay List.length Ik.o;rw[ag,ag,bE]at q;omega) cw ?_)
       intro v' w4 eA zU)
     |fail)
    have FX:Fr (own (.slice al fs.length cl)) W3 w4:=Fr.grown ((Fr.refl (own (.slice al fs.length cl)) W3).alloc _) zU (fun k hk _=>hk);have Ir:bW U.heap.size w9 ({o with ak:={o.ak with bo:=.slice a9 hs.length c9}},hs) ev.op:=by
     have q:=FV.o w9 (DQ.trans rG);exact⟨{q.fit with bo:=gX.at},q.is,gX⟩
    have key:∀ {x:dK×List dP} {p:df},bW U.heap.size w9 x p->bW U.heap.size w4 x p:=fun q=>by
     have q3:=q.one (Km) ae rH;exact q3.rows (q3.own.fr FX fun b hb Fh=>by
      obtain⟨c',wg⟩:=gP.jR Fh;exact q3.own.not wg ae hb)
    have xV:ug U es v' (.int .i64 ((k+1:Nat):Int)) w4:=by
     refine⟨k+1,ab,rfl,?_,fs++[(ev,({o with ak:={o.ak with bo:=.slice a9 hs.length c9}},hs))],?_,?_,fun x hx=>?_⟩
     ·refine((DQ.trans rG).step rH (fun k hk e=>?_)).step FX (fun k hk e=>?_)
      ·have e':k=N:=e;omega
      ·have:=gP.block k e;omega
     ·rw[bI,Ik.o,Kj.o];rfl
     ·rw[bI,bp,bQ,show nz (ev,({o with ak:={o.ak with bo:=.slice a9 hs.length c9}},hs))=rJ ev.tab o a9 hs.length c9 ev.cP ev.dZ ev.fin from mb (o:={o with ak:={o.ak with bo:=.slice a9 hs.length c9}}) rfl ev.op ev.cP ev.dZ ev.fin, <-Kl.o];exact eA
     ·rcases aE.1 hx with hx|hx
      ·exact key ((we.o x hx).kept (cK (Il.trans rG)))
      ·rcases aG.1 hx with rfl
       exact key Ir
    have FY:=O xV;clear xV key Ir FX eA zU gP rH Iq xT zI Ip;go_wp2;go_roundw
    case rel =>
     obtain⟨k',r1,r2,r3⟩:=FY.o;exact⟨k',r1,r2.trans bq,r3⟩
    case measure=>simp[intOf];omega
  ·have HE:=O (show fs.map (·.1)=t.cI by rw[ji,bj ab,Fx.o]);have HO:=O bO;have HP:=O fp;have Kn:=O hF;clear bO fp ji hF;go_wp2;go_ret;exact⟨_,rfl,⟨fs,HE.o,HO.o,HP.o⟩,Kn.o⟩
end
def pn:df:=⟨10,0,j6,j6,⟨#[47]⟩,⟨#[]⟩,⟨#[71,69,84]⟩,[],false,⟨#[]⟩,false,⟨#[]⟩,⟨#[]⟩,⟨#[]⟩,⟨#[]⟩,0,false,7⟩
def wQ:dK:=⟨10,⟨0,j6,j6,⟨#[47]⟩,⟨#[]⟩,⟨#[71,69,84]⟩,.slice none 0 0,false,⟨#[]⟩⟩,false,⟨#[]⟩,⟨#[]⟩,⟨#[]⟩,⟨#[]⟩,0,false,7⟩
def CQ:Array Value:= #[.int .i64 10,.int .i64 0,.bool true,.string ⟨#[97,46,116,101,115,116]⟩,.int .i64 443,.bool true,.string ⟨#[97,46,116,101,115,116]⟩,.int .i64 443,.string ⟨#[47]⟩,.string ⟨#[]⟩,.string ⟨#[71,69,84]⟩,.slice none 0 0,.bool false,.string ⟨#[]⟩,.bool false,.string ⟨#[]⟩,.string ⟨#[]⟩,.string ⟨#[]⟩,.string ⟨#[]⟩,.int .i64 0,.bool false,.int .i64 7]
theorem zJ:wQ.cH []=pn:=rfl
theorem zK:wQ.cells.toArray=CQ:=rfl
theorem wR(w:World):dL w wQ [] :=
 ⟨cz.nil _ _,⟨ae,ae,fun _ h=>by cases h⟩,ae,ae,ae,ae,ae,ae,ae,ae,ae,ae,ae,ae,ae,ae,ae,ae⟩
def fq:Nat->cX
 |0=>(kF il 2 pn).1
 |k+1=>(dW (fq k) 2).1
theorem wS:(kF il 2 pn).2=0:=af
theorem FZ:(dW (fq 0) 2).2=(rep 0,false,0):=af
theorem F0:(dW (fq 1) 2).2=(rep 0,false,0):=af
theorem F2:(dW (fq 2) 2).2=(⟨1,⟨#[]⟩,0⟩,true,0):=af
theorem rk:(fq 3).cI.length=1:=af
theorem wT:(fq 3).w.now=7:=af
theorem iC(k:Nat):cJ (1+2*(k:Int)) (fq k)/\(fq k).cI.length<=k:=by
 induction k with
 |zero=>exact⟨(cJ.new.dZ 2 pn ⟨ae,ae,ae⟩).mono ab,by show(kF il 2 pn).1.cI.length<=0;rw[rj];exact ar _⟩
 |succ k ih =>
  refine⟨(ih.1.step 2).mono ab,?_⟩;have:=pk (fq k) 2;have:=ih.2;show(dW (fq k) 2).1.cI.length<=k+1;omega
def zL(a:World)(T:Nat)(i:Value)(wr:World):Prop:=∃k:Nat,k<=2/\i=.int .i64 k/\aI none a wr T (fq k)
theorem zM(k:Nat)(i:Nat)(h:((fq k).tab i).does=2)(hk:k<=2):((fq k).tab i).op=pn:=by
 rcases(show k=0\/k=1\/k=2 from ab)with rfl|rfl|rfl
 ·by_cases e:i=2
  ·subst e;exact absurd h fN
  ·exfalso;have e':¬i=(2:Int).toNat:=e;have:((fq 0).tab i).does=0:=by
    show((if i=(2:Int).toNat then _ else cF:gM)).does=0;rw[aj e'];rfl
   omega
 ·by_cases e:i=2
  ·subst e;rfl
  ·exfalso;have e':¬i=(2:Int).toNat:=e;have:((fq 1).tab i).does=0:=by
    show((if i=(2:Int).toNat then _ else(if i=(2:Int).toNat then _ else cF):gM)).does=0;rw[aj e',aj e'];rfl
   omega
 ·by_cases e:i=2
  ·subst e;exact absurd h fN
  ·exfalso;have e':¬i=(2:Int).toNat:=e;have:((fq 2).tab i).does=0:=by
    show((if i=(2:Int).toNat then _ else(if i=(2:Int).toNat then _ else(if i=(2:Int).toNat then _ else cF)):gM)).does=0;rw[aj e',aj e',aj e'];rfl
   omega
theorem rm:pn.right=true:=af
theorem kq{a w:World}{T k:Nat}(hk:k<=2)(ht:oC a)(h:aI none a w T (fq k)):Calls prog 13 #[.pointer (some ⟨T,0,none⟩),.int .i64 2] w (fI none a w T (dW (fq k) 2)) :=
 ud h 2 (k:=1+2*(k:Int)) ab (iC k).1 (by have:=(iC k).2;omega) fun i _ hd V B pv o hs ho hw hf F3=>by
  have e:=zM k i hd hk;have:=wk a.heap.size V B pv _ o hs hw F3 ((iC k).1.seen i (Or.inl hd)) a ht (ar _) hf (by rw[ho,e];exact rm) (by
   have:=ay df.what (ho.trans e);exact this)
  rw[ho]at this;exact this
theorem jm(a U:World)(hf:Fr aU a U)(ht:oC a):Calls prog 5 #[] U fun e w'=>e=.returned (.bool true)/\Fr aU a w':=by
 have HT:=O ht;have HN:=O (tV hf);clear ht hf;go_enter func5,ntmps5;go_wp2_with fail
 refine HN.o.mono ?_;rintro e u⟨T,rfl,h0, -⟩;have H0:=O h0;clear HN h0;go_wp2_with fail
 refine(nr u).mono ?_;rintro e u1⟨rfl,dt⟩;unfold ef.cells j6;go_wp2_with fail
 refine(nr u1).mono ?_;rintro e u2⟨rfl,gB⟩;unfold ef.cells j6;have hb:=qR (H0.o.dv (dt.trans gB)) 2 wQ [] (k:=0) ae cJ.new (wR u2) (fun h=>absurd rfl h) ae;rw[zJ,zK,wS]at hb;unfold CQ kG at hb;rw[aq rfl]at hb;have HB:=O hb;clear hb H0 dt gB;go_wp2_with fail
 refine HB.o.mono ?_;rintro e u3⟨rfl,h3, -⟩;have H3:=O (show aI none a u3 T (fq 0)from h3);clear h3 HB;go_wp2;go_loopw[21] (zL a T) (fun i _=>2-(intOf i).toNat)
 case atStart=>exact⟨0,ab,rfl,H3.o⟩
 case round =>
  obtain⟨k,hk,rfl,hT⟩:=hrel;clear H3;rcases(show k=0\/k=1\/k=2 from ab)with rfl|rfl|rfl
  ·have hs:=kq ae HT.o hT;unfold fI at hs;rw[FZ]at hs;have HS:=O hs;clear hs hT;go_wp2_with fail
   refine HS.o.mono ?_;rintro e u4⟨rfl,h4, -⟩;have H4:=O (show aI none a u4 T (fq 1)from h4);clear h4 HS;unfold rep kG;go_wp2;go_roundw
   case rel=>exact⟨1,ab,bn,H4.o.dv ((Fr.refl aU u4).alloc _)⟩
   case measure=>simp[intOf]
  ·have hs:=kq ae HT.o hT;unfold fI at hs;rw[F0]at hs;have HS:=O hs;clear hs hT;go_wp2_with fail
   refine HS.o.mono ?_;rintro e u4⟨rfl,h4, -⟩;have H4:=O (show aI none a u4 T (fq 2)from h4);clear h4 HS;unfold rep kG;go_wp2;go_roundw
   case rel=>exact⟨2,ab,bn,H4.o.dv ((Fr.refl aU u4).alloc _)⟩
   case measure=>simp[intOf]
  ·have hs:=kq ae HT.o hT;unfold fI at hs;rw[F2]at hs;have HS:=O hs;clear hs hT;go_wp2_with fail
   refine HS.o.mono ?_;rintro e u4⟨rfl,h4, -⟩;have H4:=O (show aI none a u4 T (fq 3)from h4);clear h4 HS;unfold kG;go_wp2_with fail
   have h5:=H4.o.dv ((Fr.refl aU u4).alloc (.cells #[.int .i64 1,.string ⟨#[]⟩,.int .i64 0] 51));have H5:=O h5;have cg:=O (ri h5 (by have:=(iC 3).2;omega));clear h5 H4;refine cg.o.mono ?_;rintro e u5⟨sv,rfl,Ko,CR⟩;obtain⟨es,e1,e2, -⟩:=Ko;obtain⟨wC,wD,tL⟩:=e2.form;have Iu:es.length=1:=by
    have:=ay List.length e1;rw[ag,rk]at this;exact this
   rw[ag,Iu]at tL;subst tL;have h6:=H5.o.dv CR;have HW:=O (qO h6 (iC 3).1.inv);have F4:=O h6.fr;clear e1 e2 Iu CR h6 H5 cg;go_wp2_with fail
   refine HW.o.mono ?_;rintro e u6⟨C,qv,rfl,hc,CS, -⟩;have HN:=O (uj _ _ _ _ _ hc);rw[wT]at HN;have Kp:=O (F4.o.trans CS);clear hc CS HW;go_wp2_with fail
   refine HN.o.mono ?_;rintro e u7⟨rfl,rfl⟩;go_wp2;go_ret;exact⟨rfl,Kp.o⟩
