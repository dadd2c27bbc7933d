/- Lemmas for the law's walk. -/
import Derived.Test.YtnckmcnffadjoaaGreatDoorPk20
set_option maxRecDepth 100000
set_option maxHeartbeats 16000000
set_option linter.unusedSimpArgs false
namespace Go.Proofs.YtnckmcnffadjoaaGreatDoor
open Go.Proofs.Tryz
open Go.RowKit
variable {k:Int} {a w:World} {T base:Nat} {t:fB} {o:jO} {v:Value} {hs:List ig}
section
variable {xw : Option (Nat × dD)} {a U U' : World} {T : Nat} {t : fB}
theorem MV(h:df xw a U T t)(n:Int)(hk:k+2<=1000000)(hf:gF k t)(hl:t.cU.length<1000000)(Tv:∀i,i<6->(t.tab i).does=2->abr a (t.tab i).seen (t.tab i).op) :
  aB 21 #[.pointer (some ⟨T,0,none⟩),.int .i64 n] U (sy xw a U T (lC t n)):=by
 obtain⟨x1,mU⟩:∃x1,x1=U.alloc (.cells #[.int .i64 0,.string ⟨#[]⟩,.int .i64 0] 30):=⟨_,rfl⟩;have dk:Fr aS U x1:=by rw[mU];exact(ae aS U).alloc _
 have kR0:x1.heap[U.heap.size]?=some (.cells bU 30 (0,0)):=by rw[mU];exact aC _ _
 obtain⟨R,hR⟩:∃R,R=U.heap.size:=⟨_,rfl⟩;rw[<-hR]at kR0;have KR:=O kR0;have HR:=O hR;have HX:=O mU;have YM:=O (eL dk);have YP:=O (show U.heap.size<=R from ab);have YQ:=O (show a.heap.size<=R by have:=h.fr.size;omega);have h1:=h.dm dk;have H1:=O h1;have HF:=O hf;have HK:=O hk;clear mU kR0 hR;cases hn:EP n
 ·as_aux_lemma =>
   have HE:=O (show lC t n=(t,rep 0,false,2)by unfold lC;rw[hn];rfl);have HC:=O (Ju x1 T hn);clear hn h h1 hf hk hl Tv dk;go_enter func21,ntmps21;go_wp2_with fail
   rw[<-HX.o, <-HR.o];refine HC.o.mono ?_;rintro e u⟨rfl,rfl⟩;unfold CN;go_wp2_with (first|((with_reducible refine cZ 30 ?_);refine aF rfl 30 (.tmp 4) (.tmp 17) rfl R #[.int .i64 0,.string ⟨#[]⟩,.int .i64 0] rfl rfl _ bU KR.o (bf _ rfl) rfl cC ?_)|fail)
   refine aW (jB bD _ _ R 30 #[.int .i64 0,.string ⟨#[]⟩,.int .i64 0] (0,0) _ rfl (a_ _ R _ _ _ _ KR.o) underlying30 rfl (bf _ rfl)) rfl ?_;rw[HE.o];exact step_end H1.o YM.o YP.o YQ.o KR.o _ rfl
 ·obtain⟨i,rfl,hi⟩:=Jt hn;have e1:((i:Int)).toNat=i:=rfl;have HC:=O (O0 x1 T hi);have HI:=O hi;obtain⟨cd,JI,XO, -, -⟩:=h1.cells hi;have hdo:=hf.does i;by_cases hd:(t.tab i).does=0
  ·as_aux_lemma =>
    have HE:=O (show lC t (i:Int)=(t,rep 0,false,8)by unfold lC;rw[hn,az rfl,e1,az hd]);rw[hd]at cd;clear hn h h1 hf hk hl Tv dk hd hdo hi JI XO;go_enter func21,ntmps21;go_wp2_with fail
    rw[<-HX.o, <-HR.o];refine HC.o.mono ?_;rintro e u⟨rfl,rfl⟩;go_wp2_with (first|((with_reducible refine cZ 30 ?_);refine aF rfl 30 (.tmp 4) (.tmp 39) rfl R #[.int .i64 0,.string ⟨#[]⟩,.int .i64 0] rfl rfl _ bU KR.o (bf _ rfl) rfl cC ?_)|fail)
    refine aW (jB bD _ _ R 30 #[.int .i64 0,.string ⟨#[]⟩,.int .i64 0] (0,0) _ rfl (a_ _ R _ _ _ _ KR.o) underlying30 rfl (bf _ rfl)) rfl ?_;rw[HE.o];exact step_end H1.o YM.o YP.o YQ.o KR.o _ rfl
  ·rcases(show(t.tab i).does=1\/(t.tab i).does=2\/(t.tab i).does=3 from ab)with zt|td|hd3
   ·skip
    have HE:=O (show lC t (i:Int)=({(t.put i {t.tab i with seen:=t.w,num:=t.num,does:=2})with steps:=t.steps+1},rep 0,false,0)by unfold lC;rw[hn,az rfl,e1,aq hd,step1 zt]);rw[zt]at cd;have hkr:x1.drew.heap[R]?=some (.cells bU 30 (0,0)):=KR.o;have h2:=h1.dm (aA (ae aS x1));obtain⟨B,g,sv,sb,p1,p2,p3,p4⟩:=h2.ex;obtain⟨pv,hw⟩:=p2.at (i:=6) (B:=B) (x:=t.w) rfl;have Ua:=O (BH _ _ _ _ _ hw hf.inv.sZ)
    have Wb:=O (fun U' C qv hF hc hn=>Tt (U':=U') (C:=C) (qv:=qv) hi p1 p2 p3 p4 ab h2.low h2.fr hF hc hn);have QC:=O p1;have m0:=p1.main;have mn:=p1.num;clear hn h h1 hf hk hl Tv dk hd hdo hi JI XO hw p1 p2 p3 p4 h2 hkr;go_enter func21,ntmps21;go_wp2_with fail
    rw[<-HX.o, <-HR.o];refine HC.o.mono ?_;rintro e u⟨rfl,rfl⟩;go_wp2_with fail
    refine wp_region_held_drew (S:=(fun V=>V.cell? ⟨T,0,none⟩=some (.pointer (some ⟨B,0,none⟩))/\V.rangeAt T 1 (lu t.num))) af (by exact⟨m0,mn⟩) ?_;intro zl;refine aU 0 43 rfl ?_;refine aU 1 44 rfl ?_;refine aU 2 45 rfl ?_;refine aU 3 46 rfl ?_;refine aU 4 47 rfl ?_;refine aU 5 48 rfl ?_;refine aU 6 49 rfl ?_;refine aU 8 51 rfl ?_;refine aU 9 52 rfl ?_;refine aU 10 53 rfl ?_
    refine tY 11 54 rfl (fI bD 70 (.tmp 53) rfl T 1 rfl (lu t.num) _ (fun w hw=>hw.2) underlying70 rfl af) ?_
    try simp only[Act.put,sA,sB,sC]
    refine eR 7 rfl fun K hK=>?_;go_simp;refine Ua.o.mono ?_;rintro e u2⟨C,qv,rfl,hc,yL,DI⟩;have q:=Wb.o u2 C qv yL hc DI;obtain⟨q1,q2,q3,q4,q5⟩:=q;have J8:=O q1;have YG:=O q2;have HTH:=O q5;have b2:=QC.o.fr yL id;have d25:u2.cell? ⟨T,17+i*45+25,none⟩=some (g i).sp:=b2.tab i HI.o 25 _ rfl;have f25:=b2.free (17+i*45+25);have qj:=O b2;have Wf:=O yL;rw[zt]at q3
    have HS:=O (show u2.cell? ⟨T,0,none⟩=some (.pointer (some ⟨B,0,none⟩))/\u2.rangeAt T 1 (lu t.num)from⟨b2.main,b2.num⟩);refine hK.out _ _ HS.o ?_;intro xF;clear hK K q1 q2 q5 hc yL DI b2
    try simp only[Act.put,sA,sB,sC]
    refine aU 12 55 rfl ?_;refine aU 13 56 rfl ?_;clear zl xF;refine eR 14 rfl fun K hK=>?_;go_simp;have Aw:(u2.setCell ⟨T,17+i*45+25,none⟩ (.pointer (some ⟨C,0,none⟩))).cell? ⟨T,0,none⟩=some (.pointer (some ⟨B,0,none⟩))/\(u2.setCell ⟨T,17+i*45+25,none⟩ (.pointer (some ⟨C,0,none⟩))).rangeAt T 1 (lu t.num):=⟨eZ (vs:=[_]) HS.o.1 (Or.inl ab),zd HS.o.2 (by rw[nK];omega)⟩;refine hK.out _ _ Aw ?_;intro F0
    clear hK K d25 f25 F0;generalize u2.setCell ⟨T,17+i*45+25,none⟩ (.pointer (some ⟨C,0,none⟩))=u3 at *
    try simp only[Act.put,sA,sB,sC]
    refine aU 15 57 rfl ?_;refine aU 16 58 rfl ?_;refine wpAnyH_ready (rs:=[17]) af aR ?_;refine AllReadyH.cons (o:=⟨none,_,_,_,_,_⟩) rfl (fun K hK=>?_) AllReadyH.nil;refine sx rfl 70 (.tmp 58) (.tmp 54) rfl T (17+i*45+26) (lu t.num).toArray rfl rfl HTH.o af (XN t.num) ?_
    have BC:(u3.setCells T (17+i*45+26) (lu t.num)).cell? ⟨T,0,none⟩=some (.pointer (some ⟨B,0,none⟩))/\(u3.setCells T (17+i*45+26) (lu t.num)).rangeAt T 1 (lu t.num):=⟨eZ Aw.1 (Or.inl ab),cg Aw.2 T _ _ (Or.inr (Or.inl (by rw[nK];omega)))⟩;refine hK.out _ _ BC ?_;intro hS5;clear hK K hS5 Aw;rw[show(lu t.num).toArray.toList=lu t.num from rfl];generalize u3.setCells T (17+i*45+26) (lu t.num)=u4 at *
    try simp only[Act.put,sA,sB,sC]
    refine aU 18 59 rfl ?_;refine aU 19 60 rfl ?_;refine wpAnyH_ready (rs:=[20]) af aR ?_;have q4':=q4 (17+i*45);have HS4:=O BC;clear q4;have Yt:u4.there T (17+i*45) 1:=fun j hj=>by
     have e:j=0:=ab;subst e;exact⟨by rw[Nat.add_zero,q3];rfl,q4'⟩
    refine AllReadyH.cons (o:=⟨none,_,_,_,_,_⟩) rfl (fun K hK=>?_) AllReadyH.nil;refine E' rfl 3 (.tmp 60) _ rfl T (17+i*45) (.int .i64 2) rfl rfl rfl Yt af rfl ?_;have BC:=HS4.o
    have hS6:(u4.setCell ⟨T,17+i*45,none⟩ (.int .i64 2)).cell? ⟨T,0,none⟩=some (.pointer (some ⟨B,0,none⟩))/\(u4.setCell ⟨T,17+i*45,none⟩ (.int .i64 2)).rangeAt T 1 (lu t.num):=⟨eZ (vs:=[_]) BC.1 (Or.inl ab),zd BC.2 (by rw[nK];omega)⟩;refine hK.out _ _ hS6 ?_;intro hS7;clear hK K hS7 hS6 BC HS4 q3 q4' Yt;generalize u4.setCell ⟨T,17+i*45,none⟩ (.int .i64 2)=u5 at *
    try simp only[Act.put,sA,sB,sC]
    refine wpAnyH_done af ?_ _;generalize (lu t.num).toArray=nn;have U6:gW U u5:=by
     obtain⟨c,hc,_⟩:=qj.o.eN;exact(YM.o.trans (eL ((aA (ae aS u)).trans Wf.o))).tabs hc YG.o
    have yb:u5.heap[R]?=some (.cells bU 30 (0,0)):=by
     obtain⟨c,hc,_⟩:=qj.o.eN;refine(((lL u).trans (eL ((aA (ae aS u)).trans Wf.o))).tabs hc YG.o).block KR.o su
    obtain⟨-, JI,XO, -, -⟩:=J8.o.cells HI.o;have cf:=XO 287;have s1:=HF.o.steps.1;have s2:=HF.o.steps.2;have hkk:=HK.o;have ak_:u5.cell? ⟨T,287,none⟩=some (.int .i64 t.steps):=JI;obtain⟨tk1,XP⟩:=J8.o.tick (t.steps+1);have HT1:=O tk1;obtain⟨cT,JG⟩:=J8.o.kind;have HK6:=O (U6.tabs JG XP);have J6:=O (XP.keep yb (fun e=>by cases(show R=T from e);rw[JG]at yb;cases yb));clear tk1 XP U6 yb JG JI XO
    go_wp2_with (first|((with_reducible refine cZ 30 ?_);refine aF rfl 30 (.tmp 4) (.tmp 85) rfl R #[.int .i64 0,.string ⟨#[]⟩,.int .i64 0] rfl rfl _ bU J6.o (bf _ rfl) rfl cC ?_)|fail)
    refine aW (jB bD _ _ R 30 #[.int .i64 0,.string ⟨#[]⟩,.int .i64 0] (0,0) _ rfl (a_ _ R _ _ _ _ J6.o) underlying30 rfl (bf _ rfl)) rfl ?_;rw[HE.o];exact step_end HT1.o HK6.o YP.o YQ.o J6.o _ rfl
   ·as_aux_lemma =>
     have HE:=O (show lC t (i:Int)=({(t.put i {t.tab i with ec:=(iK (t.tab i).seen (t.tab i).op).2,seen:=(iK (t.tab i).seen (t.tab i).op).1,does:=3})with steps:=t.steps+1},rep 0,false,0)by unfold lC;rw[hn,az rfl,e1,aq hd,step2 td]);rw[td]at cd;have h2:=h1.dm (aA (ae aS x1));obtain⟨B,g,sv,sb,p1,p2,p3,p4⟩:=h2.ex;obtain⟨go1,go2⟩:=((p4 i hi).1 ab).fits;have qI:=(p4 i hi).2 (Or.inl td)
     have HDO:=O (df.seen hi (Or.inl td) p1 p2 p3 p4 h2.low h2.fr (x':=(iK (t.tab i).seen (t.tab i).op).1) (fun pv hw=>by
      exact Tv i hi td _ _ pv _ _ go2 hw h2.fr go1))
     have HWK:=O (fun U' q1 q2 q3 q4 q5=>Tu (U:=U') (B:=B) (xw:=xw) (a:=a) (g:=g) (sv:=sv) (sb:=sb) (x':=(iK (t.tab i).seen (t.tab i).op).1) (iK (t.tab i).seen (t.tab i).op).2 hi q1 q2 q3 q4 (fun n hn=>(p4 n hn).2) td h2.low q5);have m25:x1.drew.cell? ⟨T,17+i*45+25,none⟩=some (.pointer (some ⟨sb i,0,none⟩)):=by rw[<-qI];exact p1.tab i hi 25 _ rfl
     have mop:x1.drew.rangeAt T (17+i*45+1) (g i).o.cells:=j5 (p:=[.int .i64 (t.tab i).does]) (q:=(g i).o.cells) (p1.tab i hi);have xn:=O qI;have HOC:=O (show(g i).o.cells.length=22 from rfl);have QC:=O p1;obtain⟨r,hr⟩:∃r,r=(iK (t.tab i).seen (t.tab i).op).2:=⟨_,rfl⟩;rw[<-hr]at HDO HWK HE;obtain⟨oc,C4⟩:∃oc,oc=(g i).o.cells:=⟨_,rfl⟩;have HOV:=O C4;rw[<-C4]at HDO mop HOC
     clear hn h h1 hf hk hl Tv dk hd hdo hi JI XO p1 p2 p3 p4 h2 qI go1 go2 hr C4;go_enter func21,ntmps21;go_wp2_with fail
     rw[<-HX.o, <-HR.o];refine HC.o.mono ?_;rintro e u⟨rfl,rfl⟩;go_wp2_with fail
     refine wp_region_held_drew (S:=(fun V=>V.cell? ⟨T,17+i*45+25,none⟩=some (.pointer (some ⟨sb i,0,none⟩))/\V.rangeAt T (17+i*45+1) oc)) af (by exact⟨m25,mop⟩) ?_;intro zl;refine aU 0 63 rfl ?_;refine aU 1 64 rfl ?_;refine aU 2 65 rfl ?_;refine aU 3 66 rfl ?_;refine aU 4 67 rfl ?_;refine aU 5 68 rfl ?_;refine aU 6 69 rfl ?_;refine aU 7 70 rfl ?_;refine aU 8 71 rfl ?_
     refine tY 9 72 rfl (fI bD 41 (.tmp 71) rfl T (17+i*45+1) rfl oc _ (fun w hw=>hw.2) underlying41 rfl (by rw[HOC.o];kernel_rfl)) ?_
     try simp only[Act.put,sA,sB,sC]
     refine eR 10 rfl fun K hK=>?_;go_simp;refine HDO.o.mono ?_;rintro e u2⟨rfl,⟨y1,y2,y3,y4,y5⟩,y6⟩;obtain⟨q1,q2,q3,q4,q5⟩:=HWK.o u2 y1 y2 y3 y4 y5;have J8:=O q1;have YG:=O q2;have HTH:=O q5;have qj:=O y1;have HY6:=O (gW.O7 y6);rw[td]at q3
     have HS:=O (show u2.cell? ⟨T,17+i*45+25,none⟩=some (.pointer (some ⟨sb i,0,none⟩))/\u2.rangeAt T (17+i*45+1) oc from⟨by rw[<-xn.o];exact y1.tab i HI.o 25 _ rfl,by rw[HOV.o];exact j5 (p:=[.int .i64 (t.tab i).does]) (q:=(g i).o.cells) (y1.tab i HI.o)⟩);refine hK.out _ _ HS.o ?_;intro xF;clear hK K q1 q2 q5 y1 y2 y3 y4 y5 y6 zl xF
     try simp only[Act.put,sA,sB,sC]
     refine aU 11 74 rfl ?_;refine aU 12 75 rfl ?_;refine wpAnyH_ready (rs:=[13]) af aR ?_;refine AllReadyH.cons (o:=⟨none,_,_,_,_,_⟩) rfl (fun K hK=>?_) AllReadyH.nil;refine sx rfl 30 (.tmp 75) (.tmp 73) rfl T (17+i*45+42) (pC r).toArray rfl rfl HTH.o af (XM r) ?_
     have BC:(u2.setCells T (17+i*45+42) (pC r)).cell? ⟨T,17+i*45+25,none⟩=some (.pointer (some ⟨sb i,0,none⟩))/\(u2.setCells T (17+i*45+42) (pC r)).rangeAt T (17+i*45+1) oc:=⟨eZ HS.o.1 (Or.inl ab),cg HS.o.2 T _ _ (Or.inr (Or.inl (by rw[HOC.o];omega)))⟩;refine hK.out _ _ BC ?_;intro hS5;clear hK K hS5;rw[show(pC r).toArray.toList=pC r from rfl];generalize u2.setCells T (17+i*45+42) (pC r)=u4 at *
     try simp only[Act.put,sA,sB,sC]
     refine aU 14 76 rfl ?_;refine aU 15 77 rfl ?_;refine wpAnyH_ready (rs:=[16]) af aR ?_;have q4':=q4 (17+i*45);have HS4:=O BC;clear q4 BC;refine AllReadyH.cons rfl (fun K hK=>?_) AllReadyH.nil;go_simp;have BC:=HS4.o
     have hS6:(u4.setCell ⟨T,17+i*45,none⟩ (.int .i64 3)).cell? ⟨T,17+i*45+25,none⟩=some (.pointer (some ⟨sb i,0,none⟩))/\(u4.setCell ⟨T,17+i*45,none⟩ (.int .i64 3)).rangeAt T (17+i*45+1) oc:=⟨eZ (vs:=[_]) BC.1 (Or.inr (by show 17+i*45+1<=_;omega)),cg BC.2 T (17+i*45) [_] (Or.inr (Or.inr (by show 17+i*45+1<=_;omega)))⟩;refine hK.out _ _ hS6 ?_;intro hS7;clear hK K hS7 hS6 BC HS4 q3 q4'
     generalize u4.setCell ⟨T,17+i*45,none⟩ (.int .i64 3)=u5 at *
     refine wpAnyH_done af ?_ _;have U6:gW U u5:=by
      obtain⟨c,hc,_⟩:=qj.o.eN;exact(YM.o.trans ((eL (aA (ae aS u))).trans HY6.o)).tabs hc YG.o
     have yb:u5.heap[R]?=some (.cells bU 30 (0,0)):=by
      obtain⟨c,hc,_⟩:=qj.o.eN;refine(((lL u).trans ((eL (aA (ae aS u))).trans HY6.o)).tabs hc YG.o).block KR.o su
     obtain⟨-, JI,XO, -, -⟩:=J8.o.cells HI.o;have cf:=XO 287;have s1:=HF.o.steps.1;have s2:=HF.o.steps.2;have hkk:=HK.o;have ak_:u5.cell? ⟨T,287,none⟩=some (.int .i64 t.steps):=JI;obtain⟨tk1,XP⟩:=J8.o.tick (t.steps+1);have HT1:=O tk1;obtain⟨cT,JG⟩:=J8.o.kind;have HK6:=O (U6.tabs JG XP);have J6:=O (XP.keep yb (fun e=>by cases(show R=T from e);rw[JG]at yb;cases yb));clear tk1 XP U6 yb JG JI XO
     go_wp2_with (first|((with_reducible refine cZ 30 ?_);refine aF rfl 30 (.tmp 4) (.tmp 85) rfl R #[.int .i64 0,.string ⟨#[]⟩,.int .i64 0] rfl rfl _ bU J6.o (bf _ rfl) rfl cC ?_)|fail)
     refine aW (jB bD _ _ R 30 #[.int .i64 0,.string ⟨#[]⟩,.int .i64 0] (0,0) _ rfl (a_ _ R _ _ _ _ J6.o) underlying30 rfl (bf _ rfl)) rfl ?_;rw[HE.o];exact step_end HT1.o HK6.o YP.o YQ.o J6.o _ rfl
   ·as_aux_lemma =>
     have HE:=O (show lC t (i:Int)=((iB {t with steps:=t.steps+1} i).1,(iB {t with steps:=t.steps+1} i).2.1,(iB {t with steps:=t.steps+1} i).2.2,0)by unfold lC;rw[hn,az rfl,e1,aq hd,ak8 hd3]);rw[hd3]at cd;have cf:=XO 287;have s1:=hf.steps.1;have s2:=hf.steps.2;obtain⟨tk1,XP⟩:=h1.tick (t.steps+1);obtain⟨cT,JG⟩:=h1.kind;have HCM:=O (Py tk1 hi hd3 (show k+1<1000000 from ab) hf.tick hl)
     have HK5:=O ((eL dk).tabs JG XP);have Ia:=O (XP.keep KR.o (fun e=>by
      cases(show R=T from e);have:=KR.o;rw[JG]at this;cases this))
     clear hn h h1 hf hl Tv dk hd hdo hi XO tk1 XP JG;go_enter func21,ntmps21;go_wp2_with fail
     rw[<-HX.o, <-HR.o];refine HC.o.mono ?_;rintro e u⟨rfl,rfl⟩;go_wp2_with fail
     refine HCM.o.mono ?_;rintro e w6⟨rfl,z1,z2⟩;have Q0:=O z1;have HZ2:=O z2;have HZR:=O (z2.block Ia.o su);clear z1 z2;generalize iB {t with steps:=t.steps+1} i=cr at *
     go_wp2_with (first|((with_reducible refine cZ 30 ?_);refine aF rfl 30 (.tmp 4) (.tmp 34) rfl R #[.int .i64 cr.2.1.what,.string cr.2.1.head,.int .i64 cr.2.1.cert] rfl rfl _ bU HZR.o (bf _ rfl) rfl cC ?_)|fail)
     refine aW (jB bD _ _ R 30 #[.int .i64 cr.2.1.what,.string cr.2.1.head,.int .i64 cr.2.1.cert] (0,0) _ rfl (a_ _ R _ _ _ _ HZR.o) underlying30 rfl (bf _ rfl)) rfl ?_;rw[HE.o];exact step_end Q0.o (HK5.o.trans HZ2.o) YP.o YQ.o HZR.o _ rfl
end
theorem abr.any{x:dD}{op:iE}(hi:lr x)(ht:kO a):abr a x op:=fun V B pv o hs ho hw hf qL=>by
 have:=QU hw hf hi ht qL;rw[ho]at this;exact this
theorem XQ{xw:Option (Nat×dD)}{U:World}(h:df xw a U T t)(n:Int)(hk:k+2<=1000000)(hf:gF k t)(hl:t.cU.length<1000000)(ht:kO a) :
  aB 21 #[.pointer (some ⟨T,0,none⟩),.int .i64 n] U (sy xw a U T (lC t n)) :=
 MV h n hk hf hl (fun i _ hd=>abr.any (hf.seen i (Or.inl hd)) ht)
section
variable {xw : Option (Nat × dD)} {a U U' : World} {T : Nat} {t : fB}
def XW(U:World)(es:List (ua×(jO×List ig)))(l i:Value)(wr:World):Prop :=
 ∃k:Nat,k<=es.length/\i=.int .i64 k/\Fr aS U wr/\∃fs:List (ua×(jO×List ig)),fs.map (·.1)=(es.take k).map (·.1)/\OwnRows U.heap.size 43 28 wr l (fs.map Fy)/\∀x∈fs,jZ U.heap.size wr x.2 x.1.op
theorem Fg:(prog.info? 43).map (·.zero)=some (some (.agg xg)):=af
theorem vu:(prog.info? 43).map (·.size)=some 28:=af
theorem JN{l:aZ}(h:∀u∈l,u.oneCell'=true):l.toArray.all (·.oneCell')=true:=b_ h
theorem abw{w9:World}{N:Nat}{ev:ua}{nh:Nat}{ah:eO}{ch:Nat}(a9:eO)(c9:Nat){y:aZ}{i0:TypeInfo}(ll:i0.size=28)(hy:y=Tk ev.tab o ah nh ch ev.ec ev.iG ev.fin)(k9:w9.heap[N]?=some (.cells y.toArray 43 (0,0))){wr:World}{xs:dh}(hF:Fr aS wr w9)(hN:N=wr.heap.size)(ho:OwnRows base 43 28 wr v xs) :
  ∃(y2:aZ) (W3:World),y2=Tk ev.tab o a9 nh c9 ev.ec ev.iG ev.fin/\W3=w9.setCell ⟨N,12,none⟩ (.slice a9 nh c9)/\W3.heap[N]?=some (.cells y2.toArray 43 (0,0))/\Fr (one N) w9 W3/\y2.length=28/\(∀u∈y2,u.oneCell'=true)/\Instr.fill (fun i=>some (i*i0.size,i0.size)) ((Array.range (1*i0.size)).map ((Value.agg xg).cells[· %(Value.agg xg).cells.size]!)) [(0,.agg y2.toArray)]=some y2.toArray/\OwnRows base 43 28 W3 v xs:=by
 have Uf:Fr (one N) w9 (w9.setCell ⟨N,12,none⟩ (.slice a9 nh c9)):=(ae (one N) _).setCell (p:=⟨N,12,none⟩) (fun _=>rfl) _;refine⟨_,_,rfl,rfl,?_,Uf,rfl,Dc _ _ _ _ _ _ _ _,by rw[ll];exact Pr _ _ _ _ _ _ _ _,(ho.fr hF (fun _ _ h=>h)).fr Uf (fun b hb e=>?_)⟩
 ·rw[cq k9,hy];rfl
 ·have:=ho.lt b hb;have e':b=N:=e;omega
theorem BQ(h:df xw a U T t)(hl:t.cU.length<1000000) :
  aB 10 #[.pointer (some ⟨T,0,none⟩)] U fun e w'=>∃sv,e=.returned sv/\oA U.heap.size w' sv t.cU/\Fr aS U w':=by
 obtain⟨B,g,sv,sb,h1,h2,⟨es,Gd,mE,CO⟩,h4⟩:=h.ex;obtain⟨asv,csv,Xv⟩:=mE.form;rw[ai]at Xv;subst Xv;have afX:es.length<1000000:=by rw[<-ai (f:=(·.1)),Gd];exact hl
 have HRW:=O (fun V (hV:Fr aS U V)=>bh mE.at hV);have HOP:=O (fun V (hV:Fr aS U V) x (hx:x∈es)=>(CO x hx).kept (gj hV));have ale:=h1.st;obtain⟨i0,qN,pD,ll,lF⟩:=info_parts JD;have Ug:=O Gd;clear h h1 h2 h4 Gd mE CO;go_enter func10,ntmps10
 go_wp2_with (at_make
              refine wpList_make_own _ rfl _ _ 25 rfl U.heap.size 43 i0 (.agg xg) 28 underlying25 qN pD ll .i64 .i64 _ es.length rfl rfl rfl (by rw[lF];omega) ft (ay _) ?_
              intro w1 rK alf
              have R0:Fr aS U w1:=fy (ae _ _) alf (fun k hk=>by cases hk)
              have alh:=og ale R0 id)
 go_loopw[3,17] (XW U es) (fun _ i _=>es.length-(intOf i).toNat)
 case atStart=>exact⟨0,aL _,rfl,R0,[],rfl,⟨aR,rK⟩,aR⟩
 case round =>
  obtain⟨k,hk,rfl,hF,fs,kR,cW,CO⟩:=hrel;obtain⟨al,cl,TJ⟩:=cW.form;rw[ai]at TJ;subst TJ;clear alh R0 rK alf ale;by_cases fe:k<es.length
  ·have dS:=HRW.o wr hF;rcases dS.2 with ⟨_,_,_,e,_⟩|⟨bk,o0,c,hf,g1,g2,g3,g4⟩
   ·have:es=[]:=by simpa using e
    subst this;exact absurd fe (bV _)
   ·rw[ai]at hf;cases hf;have hx:=List.getElem?_eq_getElem fe;generalize es[k]=x at hx;have iJ:x∈es:=bQ hx;have hr:wr.rangeAt bk (o0+k*28) (Fy x):=fun j v hj=>g4 k (Fy x) (by rw[List.getElem?_map,hx];rfl) j v hj;have HOX:=O (fun V (hV:Fr aS U V)=>HOP.o V hV x iJ);obtain⟨ev,o,hs⟩:=x;have DH:=HOX.o wr hF;obtain⟨ah,ch,hh⟩:=DH.own.form;rw[ai]at hh;have se:hs.length<100000:=DH.fit.aN.2.1
    have Fu:=O (show(es.take (k+1)).map (·.1)=(es.take k).map (·.1)++[ev]by rw[cj,hx];simp);obtain⟨y,hy⟩:∃y,y=Fy (ev,(o,hs)):=⟨_,rfl⟩;rw[<-hy]at hr;have hy':y=Tk ev.tab o ah hs.length ch ev.ec ev.iG ev.fin:=hy.trans (E0 hh ev.op ev.ec ev.iG ev.fin);have HY:=O hy';have Ff:=O (show y.length=28 by rw[hy];rfl)
    have SQ:=O (show∀u∈y,u.oneCell'=true by rw[hy,show Fy (ev,(o,hs))=Tk ev.tab o ah hs.length ch ev.ec ev.iG ev.fin from E0 hh ev.op ev.ec ev.iG ev.fin];exact Dc _ _ _ _ _ _ _ _);have HR:=O hr;have HHH:=O hh;have Ei:=O cW;have aqV:=O CO;have HF:=O hF;have VC:=O kR;obtain⟨N,hN⟩:∃N,N=wr.heap.size:=⟨_,rfl⟩;have hUN:U.heap.size<=N:=by have:=hF.size;omega
    have Ey:=O (show(wr.alloc (.cells xg 43)).heap[N]?=some (.cells xg 43 (0,0))from by rw[hN];exact aC _ _);have HN:=O hN;have hke:k<es.length:=fe;clear dS hr hx hy hy' hh DH cW CO hF kR hN g4;go_wp2_with (first
     |((with_reducible refine kD ⟨some 20,_,_,_,_,_⟩ ?_)
       refine aY rfl 43 (.tmp 19) rfl bk (o0+k*28) rfl y _ HR.o underlying43 rfl (by rw[Ff.o];exact vu) ?_
       refine jh rfl 43 rfl (some 5) rfl xg Fg N HN.o.symm ?_
       refine aF rfl 43 (.tmp 5) (.tmp 20) rfl N y.toArray rfl rfl 43 xg Ey.o (by rw[aX,Ff.o];exact vu) (by have e:y.toArray.size=y.length:=rfl;rw[e,Ff.o];rfl) (JN SQ.o) ?_
       have hFW:Fr aS U ((wr.alloc (.cells xg 43)).setRow N y.toArray):=je (HF.o.alloc _) hUN _
       have JM:Fr aS wr ((wr.alloc (.cells xg 43)).setRow N y.toArray):=je ((ae aS wr).alloc _) (by rw[HN.o];exact ay _) _
       have kW:((wr.alloc (.cells xg 43)).setRow N y.toArray).heap[N]?=some (.cells y.toArray 43 (0,0)):=k_ Ey.o
       generalize (wr.alloc (.cells xg 43)).setRow N y.toArray=W1 at *
       have z12:W1.cell? ⟨N,12,none⟩=some (.slice ah hs.length ch):=by
         simp only[World.cell?,kW,HY.o]
         rfl
       have J2:=O (show oX W1 (.slice ah hs.length ch) hs from by
         have q:=(HOX.o W1 hFW).fit.eB
         rw[HHH.o]at q
         exact q)
       have hlw:U.heap.size<=W1.heap.size:=hFW.size)
     |(at_builtin
       refine AF rfl _ _ rfl U.heap.size _ [] rfl (dB _ _ _ _) _ (hs.map ig.cells) rfl J2.o bH hlw ?_
       intro v9 w9 vD abe
       rw[List.nil_append]at vD
       obtain⟨a9,c9,hv9⟩:=vD.form
       rw[ai]at hv9
       subst hv9
       have Ue:Fr aS W1 w9:=fy (ae _ _) abe (fun k hk=>by cases hk)
       have k9:=Ue.keep kW id
       have z9:w9.cell? ⟨N,12,none⟩=some (.slice ah hs.length ch):=og z12 Ue id
       have z9f:w9.frozen? ⟨N,12,none⟩=false:=by simp[World.frozen?,k9])
     |((with_reducible refine kD ⟨some 30,_,_,_,_,_⟩ ?_)
       obtain⟨y2,W3,hy2,hW3,kW2,Uf,aga,adb,M4,fC⟩:=abw a9 c9 ll HY.o k9 (JM.trans Ue) HN.o Ei.o
       have HY2:=O hy2
       have k9':=k9
       clear hy2 z12 z9 z9f k9
       rw[<-hW3]
       refine aI rfl 43 (.tmp 5) rfl N rfl _ y2.toArray (0,0) _ kW2 underlying43 rfl (by rw[aX,aga];exact vu) ?_
       refine yn rfl 25 43 1 _ rfl (some 31) rfl y2.toArray i0 (.agg xg) [(0,.agg y2.toArray)] (by simp only[eH,cF,dv];rfl) underlying25 qN pD (by rw[ll];decide) (by rw[ll];decide) M4 W3.heap.size rfl ?_
       have hUW:U.heap.size<=W3.heap.size:=aE hlw (aE Ue.size Uf.size)
       clear M4)
     |(at_builtin
       refine nY rfl _ _ 25 43 rfl 28 328 (.agg xg) underlying25 JD rfl ag ag U.heap.size (.slice al fs.length cl) (fs.map Fy) rfl (fC.alloc _) W3.heap.size 1 y2 rfl aga adb (fun i u hi=>by rw[World.cell?_alloc_mark];simpa using hi) (by rw[ai];have q:=ar List.length VC.o;rw[ai,ai,aJ]at q;omega) bH ?_
       intro v' w4 fg CC)
     |fail)
    have TZ:Fr (own (.slice al fs.length cl)) W3 w4:=fy ((ae (own (.slice al fs.length cl)) W3).alloc _) CC (fun k hk _=>hk);have Zv:jZ U.heap.size w9 ({o with aN:={o.aN with eB:=.slice a9 hs.length c9}},hs) ev.op:=by
     have q:=HOX.o w9 (hFW.trans Ue);exact⟨{q.fit with eB:=vD.at},q.is,vD⟩
    have key:∀ {x:jO×List ig} {p:iE},jZ U.heap.size w9 x p->jZ U.heap.size w4 x p:=fun q=>by
     have q3:=q.one (k9') ag Uf;exact q3.rows (q3.own.fr TZ fun b hb SX=>by
      obtain⟨c',Yy⟩:=fC.Ca SX;exact q3.own.not Yy ag hb)
    have ade:XW U es v' (.int .i64 ((k+1:Nat):Int)) w4:=by
     refine⟨k+1,ab,rfl,?_,fs++[(ev,({o with aN:={o.aN with eB:=.slice a9 hs.length c9}},hs))],?_,?_,fun x hx=>?_⟩
     ·refine((hFW.trans Ue).step Uf (fun k hk e=>?_)).step TZ (fun k hk e=>?_)
      ·have e':k=N:=e;omega
      ·have:=fC.block k e;omega
     ·rw[bI,VC.o,Fu.o];rfl
     ·rw[bI,cF,dv,show Fy (ev,({o with aN:={o.aN with eB:=.slice a9 hs.length c9}},hs))=Tk ev.tab o a9 hs.length c9 ev.ec ev.iG ev.fin from E0 (o:={o with aN:={o.aN with eB:=.slice a9 hs.length c9}}) rfl ev.op ev.ec ev.iG ev.fin, <-HY2.o];exact fg
     ·rcases bL.1 hx with hx|hx
      ·exact key ((aqV.o x hx).kept (gj (JM.trans Ue)))
      ·rcases cH.1 hx with rfl
       exact key Zv
    have aqX:=O ade;clear ade key Zv TZ fg CC fC Uf kW2 adb aga hW3;go_wp2;go_roundw
    case rel =>
     obtain⟨k',r1,r2,r3⟩:=aqX.o;exact⟨k',r1,r2.trans bD,r3⟩
    case measure=>simp[intOf];omega
  ·have HE:=O (show fs.map (·.1)=t.cU by rw[kR,aD ab,Ug.o]);have HO:=O cW;have HP:=O CO;have Rt:=O hF;clear cW CO kR hF;go_wp2;go_ret;exact⟨_,rfl,⟨fs,HE.o,HO.o,HP.o⟩,Rt.o⟩
end
def tF.dW(m:tF):J_:=⟨m.kind,m.tab,m.o.dW m.hs⟩
def sD:bT:= #[.int .i64 0,.int .i64 0,.int .i64 0,.int .i64 0,.bool false,.string ⟨#[]⟩,.int .i64 0,.bool false,.string ⟨#[]⟩,.int .i64 0,.string ⟨#[]⟩,.string ⟨#[]⟩,.string ⟨#[]⟩,.slice none 0 0,.bool false,.string ⟨#[]⟩,.bool false,.string ⟨#[]⟩,.string ⟨#[]⟩,.string ⟨#[]⟩,.string ⟨#[]⟩,.int .i64 0,.bool false,.int .i64 0]
theorem AU:(prog.info? 66).map (·.zero)=some (some (.agg sD)):=af
theorem tG:(prog.info? 66).map (·.size)=some 24:=af
theorem PC(t:fB)(m:J_):(oz t m).cU.length<=t.cU.length+1:=by
 unfold oz;split
 ·rw[BO];omega
 ·split
  ·rw[Ib];omega
  ·split
   ·exact Fa _ _
   ·omega
theorem gF.move(h:gF k t)(m:J_)(ho:m.op.user.size<=5000/\m.op.pass.size<=5000/\m.op.path.size<=5000):gF (k+2) (oz t m):=by
 unfold oz;split
 ·exact(h.iG m.tab m.op ho).mono ab
 ·split
  ·exact(h.cancel m.tab).mono ab
  ·split
   ·exact h.step m.tab
   ·exact h.mono ab
theorem M3(l:List J_)(m:J_):tT (l++[m])=oz (tT l) m:=by unfold tT;simp
theorem Q2(l:List J_)(ho:∀m∈l,m.op.user.size<=5000/\m.op.pass.size<=5000/\m.op.path.size<=5000):gF (2*l.length) (tT l)/\(tT l).cU.length<=l.length:=by
 have key:∀k,k<=l.length->gF (2*(k:Int)) (tT (l.take k))/\(tT (l.take k)).cU.length<=k:=by
  intro k
  induction k with
  |zero=>exact fun _=>⟨gF.new,ay _⟩
  |succ k ih =>
   intro hk;obtain⟨i1,i2⟩:=ih ab;have hx:=List.getElem?_eq_getElem (show k<l.length from ab);rw[cj,hx,Option.toList_some,M3];refine⟨?_,?_⟩
   ·have:=i1.move (l[k]) (ho _ (bO _));rw[show(2*((k+1:Nat):Int))=2*(k:Int)+2 from ab];exact this
   ·have:=PC (tT (l.take k)) l[k];omega
 have:=key l.length (ay _);rw[List.take_length]at this;exact this
theorem Fe(h:gM w o hs):(o.dW hs).user.size<=5000/\(o.dW hs).pass.size<=5000/\(o.dW hs).path.size<=5000:=⟨h.user,h.pass,by have:=h.path;show o.aN.path.size<=5000;omega⟩
theorem Tw(h:gM w o hs)(hT:w.heap.size<=T):hs≠ []->∀b,o.aN.eB.ownBlock=some b->b≠T:=by
 intro hne b hb;rcases h.eB.2 with ⟨_,_,_,e,_⟩|⟨bk,o',c,e,_,_,hl,_⟩
 ·exact absurd (by simpa using e) hne
 ·rw[e]at hb;have hb':some bk=some b:=hb;cases hb';omega
section
variable {xw : Option (Nat × dD)} {a U U' : World} {T : Nat} {t : fB}
def af8(a:World)(T:Nat)(ms:List tF)(i:Value)(wr:World):Prop:=∃k:Nat,k<=ms.length/\i=.int .i64 k/\df none a wr T (tT ((ms.take k).map tF.dW))
theorem Q3(hf:Fr aS a U){ms:List tF}(hm:vt a v ms)(hl:ms.length<1000)(ht:kO a) :
  aB 9 #[v] U fun e w'=>∃T,e=.returned (.pointer (some ⟨T,0,none⟩))/\df none a w' T (tT (ms.map tF.dW)):=by
 obtain⟨av,cv,hv⟩:=hm.rows.form;rw[ai]at hv;subst hv;have HM:=O hm;have AO:=O (fun k (hk:k<=ms.length)=>Q2 ((ms.take k).map tF.dW) (fun m CA=>by
  obtain⟨x,hx,rfl⟩:=bZ.1 CA;exact Fe (hm.fit x (ed hx))))
 have HN:=O (MQ hf);clear hm hf;go_enter func9,ntmps9;go_wp2_with fail
 refine HN.o.mono ?_;rintro e u⟨T,rfl,h0, -⟩;clear HN;go_wp2;go_loopw[9] (af8 a T ms) (fun i _=>ms.length-(intOf i).toNat)
 case atStart=>exact⟨0,aL _,rfl,h0⟩
 case round =>
  obtain⟨k,hk,rfl,hT⟩:=hrel;clear h0;by_cases fe:k<ms.length
  ·have dS:=(HM.o.dm hT.fr).rows;rcases dS.2 with ⟨_,_,_,e,_⟩|⟨bk,o0,c,hf,g1,g2,g3,g4⟩
   ·have:ms=[]:=by simpa using e
    subst this;exact absurd fe (bV _)
   ·rw[ai]at hf;cases hf;have hx:=List.getElem?_eq_getElem fe;generalize ms[k]=x at hx;have iJ:x∈ms:=bQ hx;have hr:wr.rangeAt bk (o0+k*24) x.cells:=fun j v hj=>g4 k x.cells (by rw[List.getElem?_map,hx];rfl) j v hj;have qL:=HM.o.fit x iJ;obtain⟨kd,tb,o,hs⟩:=x;have HR:=O hr;obtain⟨y,hy⟩:∃y,y=tF.cells ⟨kd,tb,o,hs⟩:=⟨_,rfl⟩;obtain⟨ah,ch,hh⟩:=qL.h_;have Ff:=O (show y.length=24 by rw[hy];rfl)
    have SQ:=O (show∀u∈y,u.oneCell'=true by
     rw[hy];intro u hu;rcases bC.1 hu with rfl|hu
     ·rfl
     ·rcases bC.1 hu with rfl|hu
      ·rfl
      ·exact QV o (by rw[hh];rfl) u hu)
    rw[<-hy]at HR;have Fu:=O (show tT ((ms.take (k+1)).map tF.dW)=oz (tT ((ms.take k).map tF.dW)) ⟨kd,tb,o.dW hs⟩by rw[cj,hx,Option.toList_some,bI];exact M3 _ _);obtain⟨N,hN⟩:∃N,N=wr.heap.size:=⟨_,rfl⟩;have hUN:a.heap.size<=N:=by have:=hT.fr.size;omega
    have Ey:=O (show(wr.alloc (.cells sD 66)).heap[N]?=some (.cells sD 66 (0,0))from by rw[hN];exact aC _ _);have HN:=O hN;have HT:=O hT;have aqT:=O (fun V (hV:Fr aS a V)=>qL.dm hV);have HOLD:=O (Tw qL hT.low);have HNL:=O qL.aN.2.1;have HY:=O hy;clear dS hr hx hy qL hT hN g4 hh;by_cases lZ:kd=1
    ·as_aux_lemma =>
      subst lZ;go_wp2_with (first
       |((with_reducible refine kD ⟨some 12,_,_,_,_,_⟩ ?_)
         refine aY rfl 66 (.tmp 11) rfl bk (o0+k*24) rfl y _ HR.o underlying66 rfl (by rw[Ff.o];exact tG) ?_
         refine jh rfl 66 rfl (some 5) rfl sD AU N HN.o.symm ?_
         refine aF rfl 66 (.tmp 5) (.tmp 12) rfl N y.toArray rfl rfl 66 sD Ey.o (by rw[aX,Ff.o];exact tG) (by have e:y.toArray.size=y.length:=rfl;rw[e,Ff.o];rfl) (b_ SQ.o) ?_
         have JM:Fr aS wr ((wr.alloc (.cells sD 66)).setRow N y.toArray):=je ((ae aS wr).alloc _) (by rw[HN.o];exact ay _) _
         have kW:((wr.alloc (.cells sD 66)).setRow N y.toArray).heap[N]?=some (.cells y.toArray 66 (0,0)):=k_ Ey.o
         generalize (wr.alloc (.cells sD 66)).setRow N y.toArray=W1 at *
         have z0:W1.cell? ⟨N,0,none⟩=some (.int .i64 1):=by
           simp only[World.cell?,kW,HY.o]
           rfl
         have z1:W1.cell? ⟨N,1,none⟩=some (.int .i64 tb):=by
           simp only[World.cell?,kW,HY.o]
           rfl
         have oF:W1.rangeAt N 2 o.cells:=by
           have q:=vG kW
           rw[HY.o]at q
           exact j5 (p:=[_,_]) (q:=o.cells) (r:=[]) (by rw[dV];exact q)
         have hT1:=HT.o.dm JM)
       |((with_reducible refine dr 21 ?_);refine aY rfl 41 (.tmp 20) rfl N 2 rfl o.cells _ oF underlying41 rfl af ?_)
       |fail)
      have HB:=O (H8 hT1 tb o hs (k:=2*(ms.length:Int)) ab (by
       have q:=(AO.o k hk).1;rw[ai,aJ]at q;exact q.mono ab) (aqT.o _ hT1.fr) HOLD.o HNL.o)
      refine HB.o.mono ?_;rintro e w5⟨rfl,p1, -⟩;have HP:=O p1;clear p1;go_wp2;go_roundw
      case rel=>exact⟨k+1,ab,bg,by rw[Fu.o];exact HP.o⟩
      case measure=>simp[intOf];omega
    ·by_cases sH:kd=2
     ·as_aux_lemma =>
       subst sH;go_wp2_with (first
        |((with_reducible refine kD ⟨some 12,_,_,_,_,_⟩ ?_)
          refine aY rfl 66 (.tmp 11) rfl bk (o0+k*24) rfl y _ HR.o underlying66 rfl (by rw[Ff.o];exact tG) ?_
          refine jh rfl 66 rfl (some 5) rfl sD AU N HN.o.symm ?_
          refine aF rfl 66 (.tmp 5) (.tmp 12) rfl N y.toArray rfl rfl 66 sD Ey.o (by rw[aX,Ff.o];exact tG) (by have e:y.toArray.size=y.length:=rfl;rw[e,Ff.o];rfl) (b_ SQ.o) ?_
          have JM:Fr aS wr ((wr.alloc (.cells sD 66)).setRow N y.toArray):=je ((ae aS wr).alloc _) (by rw[HN.o];exact ay _) _
          have kW:((wr.alloc (.cells sD 66)).setRow N y.toArray).heap[N]?=some (.cells y.toArray 66 (0,0)):=k_ Ey.o
          generalize (wr.alloc (.cells sD 66)).setRow N y.toArray=W1 at *
          have z0:W1.cell? ⟨N,0,none⟩=some (.int .i64 2):=by
            simp only[World.cell?,kW,HY.o]
            rfl
          have z1:W1.cell? ⟨N,1,none⟩=some (.int .i64 tb):=by
            simp only[World.cell?,kW,HY.o]
            rfl
          have oF:W1.rangeAt N 2 o.cells:=by
            have q:=vG kW
            rw[HY.o]at q
            exact j5 (p:=[_,_]) (q:=o.cells) (r:=[]) (by rw[dV];exact q)
          have hT1:=HT.o.dm JM)
        |fail)
       have HB:=O (Pm hT1 tb (k:=2*(ms.length:Int)) ab (by
        have q:=(AO.o k hk).1;rw[ai,aJ]at q;exact q.mono ab))
       refine HB.o.mono ?_;rintro e w5⟨rfl,p1, -⟩;have HP:=O p1;clear p1;go_wp2;go_roundw
       case rel=>exact⟨k+1,ab,bg,by rw[Fu.o];exact HP.o⟩
       case measure=>simp[intOf];omega
     ·by_cases JZ:kd=0
      ·as_aux_lemma =>
        subst JZ;go_wp2_with (first
         |((with_reducible refine kD ⟨some 12,_,_,_,_,_⟩ ?_)
           refine aY rfl 66 (.tmp 11) rfl bk (o0+k*24) rfl y _ HR.o underlying66 rfl (by rw[Ff.o];exact tG) ?_
           refine jh rfl 66 rfl (some 5) rfl sD AU N HN.o.symm ?_
           refine aF rfl 66 (.tmp 5) (.tmp 12) rfl N y.toArray rfl rfl 66 sD Ey.o (by rw[aX,Ff.o];exact tG) (by have e:y.toArray.size=y.length:=rfl;rw[e,Ff.o];rfl) (b_ SQ.o) ?_
           have JM:Fr aS wr ((wr.alloc (.cells sD 66)).setRow N y.toArray):=je ((ae aS wr).alloc _) (by rw[HN.o];exact ay _) _
           have kW:((wr.alloc (.cells sD 66)).setRow N y.toArray).heap[N]?=some (.cells y.toArray 66 (0,0)):=k_ Ey.o
           generalize (wr.alloc (.cells sD 66)).setRow N y.toArray=W1 at *
           have z0:W1.cell? ⟨N,0,none⟩=some (.int .i64 0):=by
             simp only[World.cell?,kW,HY.o]
             rfl
           have z1:W1.cell? ⟨N,1,none⟩=some (.int .i64 tb):=by
             simp only[World.cell?,kW,HY.o]
             rfl
           have oF:W1.rangeAt N 2 o.cells:=by
             have q:=vG kW
             rw[HY.o]at q
             exact j5 (p:=[_,_]) (q:=o.cells) (r:=[]) (by rw[dV];exact q)
           have hT1:=HT.o.dm JM)
         |fail)
        have HB:=O (XQ hT1 tb (k:=2*(ms.length:Int)) ab (by
         have q:=(AO.o k hk).1;rw[ai,aJ]at q;exact q.mono ab) (by
         have q:=(AO.o k hk).2;rw[ai,aJ]at q;omega) ht)
        refine HB.o.mono ?_;rintro e w5⟨rfl,p1, -⟩;have HP:=O p1;clear p1;go_wp2;go_roundw
        case rel=>exact⟨k+1,ab,bg,by rw[Fu.o];exact HP.o⟩
        case measure=>simp[intOf];omega
      ·as_aux_lemma =>
        have HMV:=O (show oz (tT ((ms.take k).map tF.dW)) ⟨kd,tb,o.dW hs⟩=tT ((ms.take k).map tF.dW)by unfold oz;rw[aq lZ,aq sH,aq JZ]);go_wp2_with (first
         |((with_reducible refine kD ⟨some 12,_,_,_,_,_⟩ ?_)
           refine aY rfl 66 (.tmp 11) rfl bk (o0+k*24) rfl y _ HR.o underlying66 rfl (by rw[Ff.o];exact tG) ?_
           refine jh rfl 66 rfl (some 5) rfl sD AU N HN.o.symm ?_
           refine aF rfl 66 (.tmp 5) (.tmp 12) rfl N y.toArray rfl rfl 66 sD Ey.o (by rw[aX,Ff.o];exact tG) (by have e:y.toArray.size=y.length:=rfl;rw[e,Ff.o];rfl) (b_ SQ.o) ?_
           have JM:Fr aS wr ((wr.alloc (.cells sD 66)).setRow N y.toArray):=je ((ae aS wr).alloc _) (by rw[HN.o];exact ay _) _
           have kW:((wr.alloc (.cells sD 66)).setRow N y.toArray).heap[N]?=some (.cells y.toArray 66 (0,0)):=k_ Ey.o
           generalize (wr.alloc (.cells sD 66)).setRow N y.toArray=W1 at *
           have z0:W1.cell? ⟨N,0,none⟩=some (.int .i64 kd):=by
             simp only[World.cell?,kW,HY.o]
             rfl
           have z1:W1.cell? ⟨N,1,none⟩=some (.int .i64 tb):=by
             simp only[World.cell?,kW,HY.o]
             rfl
           have oF:W1.rangeAt N 2 o.cells:=by
             have q:=vG kW
             rw[HY.o]at q
             exact j5 (p:=[_,_]) (q:=o.cells) (r:=[]) (by rw[dV];exact q)
           have hT1:=HT.o.dm JM)
         |fail)
        have HP:=O hT1;go_roundw
        case rel=>exact⟨k+1,ab,bg,by rw[Fu.o,HMV.o];exact HP.o⟩
        case measure=>simp[intOf];omega
  ·have HE:=O (show(ms.take k).map tF.dW=ms.map tF.dW by rw[aD ab]);have HT:=O hT;clear hT;go_wp2;go_ret;rw[HE.o]at HT;exact⟨T,rfl,HT.o⟩
end
def PD:iE:=⟨10,0,uw,uw,⟨#[47]⟩,⟨#[]⟩,⟨#[71,69,84]⟩,[],false,⟨#[]⟩,false,⟨#[]⟩,⟨#[]⟩,⟨#[]⟩,⟨#[]⟩,0,false,7⟩
def abx:jO:=⟨10,⟨0,uw,uw,⟨#[47]⟩,⟨#[]⟩,⟨#[71,69,84]⟩,.slice none 0 0,false,⟨#[]⟩⟩,false,⟨#[]⟩,⟨#[]⟩,⟨#[]⟩,⟨#[]⟩,0,false,7⟩
def alj:bT:= #[.int .i64 10,.int .i64 0,.bool true,.string ⟨#[97,46,116,101,115,116]⟩,.int .i64 443,.bool true,.string ⟨#[97,46,116,101,115,116]⟩,.int .i64 443,.string ⟨#[47]⟩,.string ⟨#[]⟩,.string ⟨#[71,69,84]⟩,.slice none 0 0,.bool false,.string ⟨#[]⟩,.bool false,.string ⟨#[]⟩,.string ⟨#[]⟩,.string ⟨#[]⟩,.string ⟨#[]⟩,.int .i64 0,.bool false,.int .i64 7]
theorem agb:abx.dW []=PD:=rfl
theorem agc:abx.cells.toArray=alj:=rfl
theorem aby(w:World):gM w abx [] :=
 ⟨dZ.nil _ _,⟨ag,ag,fun _ h=>by cases h⟩,ag,ag,ag,ag,ag,ag,ag,ag,ag,ag,ag,ag,ag,ag,ag,ag⟩
def sO:Nat->fB
 |0=>(za sq 2 PD).1
 |k+1=>(lC (sO k) 2).1
theorem abz:(za sq 2 PD).2=0:=af
theorem aqY:(lC (sO 0) 2).2=(rep 0,false,0):=af
theorem aqZ:(lC (sO 1) 2).2=(rep 0,false,0):=af
theorem aq0:(lC (sO 2) 2).2=(⟨1,⟨#[]⟩,0⟩,true,0):=af
theorem Tx:(sO 3).cU.length=1:=af
theorem abA:(sO 3).w.now=7:=af
theorem AV(k:Nat):gF (1+2*(k:Int)) (sO k)/\(sO k).cU.length<=k:=by
 induction k with
 |zero=>exact⟨(gF.new.iG 2 PD ⟨ag,ag,ag⟩).mono ab,by show(za sq 2 PD).1.cU.length<=0;rw[BO];exact ay _⟩
 |succ k ih =>
  refine⟨(ih.1.step 2).mono ab,?_⟩;have:=Fa (sO k) 2;have:=ih.2;show(lC (sO k) 2).1.cU.length<=k+1;omega
def agd(a:World)(T:Nat)(i:Value)(wr:World):Prop:=∃k:Nat,k<=2/\i=.int .i64 k/\df none a wr T (sO k)
theorem age(k:Nat)(i:Nat)(h:((sO k).tab i).does=2)(hk:k<=2):((sO k).tab i).op=PD:=by
 rcases(show k=0\/k=1\/k=2 from ab)with rfl|rfl|rfl
 ·by_cases e:i=2
  ·subst e;exact absurd h dw
  ·exfalso;have e':¬i=(2:Int).toNat:=e;have:((sO 0).tab i).does=0:=by
    show((if i=(2:Int).toNat then _ else fo:vo)).does=0;rw[aq e'];rfl
   omega
 ·by_cases e:i=2
  ·subst e;rfl
  ·exfalso;have e':¬i=(2:Int).toNat:=e;have:((sO 1).tab i).does=0:=by
    show((if i=(2:Int).toNat then _ else(if i=(2:Int).toNat then _ else fo):vo)).does=0;rw[aq e',aq e'];rfl
   omega
 ·by_cases e:i=2
  ·subst e;exact absurd h dw
  ·exfalso;have e':¬i=(2:Int).toNat:=e;have:((sO 2).tab i).does=0:=by
    show((if i=(2:Int).toNat then _ else(if i=(2:Int).toNat then _ else(if i=(2:Int).toNat then _ else fo)):vo)).does=0;rw[aq e',aq e',aq e'];rfl
   omega
theorem Ty:PD.right=true:=af
theorem Fi{k:Nat}(hk:k<=2)(ht:kO a)(h:df none a w T (sO k)):aB 21 #[.pointer (some ⟨T,0,none⟩),.int .i64 2] w (sy none a w T (lC (sO k) 2)) :=
 MV h 2 (k:=1+2*(k:Int)) ab (AV k).1 (by have:=(AV k).2;omega) fun i _ hd V B pv o hs ho hw hf qL=>by
  have e:=age k i hd hk;have:=QT a.heap.size V B pv _ o hs hw qL ((AV k).1.seen i (Or.inl hd)) a ht (ay _) hf (by rw[ho,e];exact Ty) (by
   have:=ar iE.what (ho.trans e);exact this)
  rw[ho]at this;exact this
theorem Ct(a U:World)(hf:Fr aS a U)(ht:kO a):aB 7 #[] U fun e w'=>e=.returned (.bool true)/\Fr aS a w':=by
 have HT:=O ht;have HN:=O (MQ hf);clear ht hf;go_enter func7,ntmps7;go_wp2_with fail
 refine HN.o.mono ?_;rintro e u⟨T,rfl,h0, -⟩;have H0:=O h0;clear HN h0;go_wp2_with fail
 refine(Aq u).mono ?_;rintro e u1⟨rfl,dk⟩;unfold gG.cells uw;go_wp2_with fail
 refine(Aq u1).mono ?_;rintro e u2⟨rfl,dE⟩;unfold gG.cells uw;have hb:=H8 (H0.o.dm (dk.trans dE)) 2 abx [] (k:=0) ag gF.new (aby u2) (fun h=>absurd rfl h) ag;rw[agb,agc,abz]at hb;unfold alj CN at hb;rw[az rfl]at hb;have HB:=O hb;clear hb H0 dk dE;go_wp2_with fail
 refine HB.o.mono ?_;rintro e u3⟨rfl,h3, -⟩;have H3:=O (show df none a u3 T (sO 0)from h3);clear h3 HB;go_wp2;go_loopw[21] (agd a T) (fun i _=>2-(intOf i).toNat)
 case atStart=>exact⟨0,ab,rfl,H3.o⟩
 case round =>
  obtain⟨k,hk,rfl,hT⟩:=hrel;clear H3;rcases(show k=0\/k=1\/k=2 from ab)with rfl|rfl|rfl
  ·have hs:=Fi ag HT.o hT;unfold sy at hs;rw[aqY]at hs;have HS:=O hs;clear hs hT;go_wp2_with fail
   refine HS.o.mono ?_;rintro e u4⟨rfl,h4, -⟩;have H4:=O (show df none a u4 T (sO 1)from h4);clear h4 HS;unfold rep CN;go_wp2;go_roundw
   case rel=>exact⟨1,ab,bg,H4.o.dm ((ae aS u4).alloc _)⟩
   case measure=>simp[intOf]
  ·have hs:=Fi ag HT.o hT;unfold sy at hs;rw[aqZ]at hs;have HS:=O hs;clear hs hT;go_wp2_with fail
   refine HS.o.mono ?_;rintro e u4⟨rfl,h4, -⟩;have H4:=O (show df none a u4 T (sO 2)from h4);clear h4 HS;unfold rep CN;go_wp2;go_roundw
   case rel=>exact⟨2,ab,bg,H4.o.dm ((ae aS u4).alloc _)⟩
   case measure=>simp[intOf]
  ·have hs:=Fi ag HT.o hT;unfold sy at hs;rw[aq0]at hs;have HS:=O hs;clear hs hT;go_wp2_with fail
   refine HS.o.mono ?_;rintro e u4⟨rfl,h4, -⟩;have H4:=O (show df none a u4 T (sO 3)from h4);clear h4 HS;unfold CN;go_wp2_with fail
   have h5:=H4.o.dm ((ae aS u4).alloc (.cells #[.int .i64 1,.string ⟨#[]⟩,.int .i64 0] 30));have H5:=O h5;have lO:=O (BQ h5 (by have:=(AV 3).2;omega));clear h5 H4;refine lO.o.mono ?_;rintro e u5⟨sv,rfl,J9,lN⟩;obtain⟨es,e1,e2, -⟩:=J9;obtain⟨asv,csv,Xv⟩:=e2.form;have hel:es.length=1:=by
    have:=ar List.length e1;rw[ai,Tx]at this;exact this
   rw[ai,hel]at Xv;subst Xv;have h6:=H5.o.dm lN;have HW:=O (H2 h6 (AV 3).1.inv);have xo:=O h6.fr;clear e1 e2 hel lN h6 H5 lO;go_wp2_with fail
   refine HW.o.mono ?_;rintro e u6⟨C,qv,rfl,hc,nL, -⟩;have HN:=O (Fh _ _ _ _ _ hc);rw[abA]at HN;have GB:=O (xo.o.trans nL);clear hc nL HW;go_wp2_with fail
   refine HN.o.mono ?_;rintro e u7⟨rfl,rfl⟩;go_wp2;go_ret;exact⟨rfl,GB.o⟩
theorem xk.dm{w':World}{ms:List tF}(h:xk w v ms)(hf:Fr aS w w'):xk w' v ms:=⟨bh h.1 hf,h.2.1,fun m hm=>(h.2.2 m hm).dm hf⟩
def Ka(ms:List tF):fB:=tT (ms.map tF.dW)
theorem X4{ms:List tF}(h:vt w v ms)(hl:ms.length<=150):gF 300 (Ka ms)/\(Ka ms).cU.length<=150:=by
 have:=Q2 (ms.map tF.dW) (fun m hm=>by
  obtain⟨x,hx,rfl⟩:=bZ.1 hm;exact Fe (h.fit x hx))
 rw[ai]at this;exact⟨this.1.mono ab,by have:=this.2;unfold Ka;omega⟩
theorem agk(ms:List tF):vI (Ka ms):=vI.run _
structure alp (u:World) (bk o c:Nat) (es:List (ua×(jO×List ig))):Prop where
 cell:∀V,Fr aS u V->∀(j:Nat) x,es[j]?=some x->∀(i:Nat) v,(Fy x)[i]?=some v->V.cell? ⟨bk,o+j*28+i,none⟩=some v
 op:∀V,Fr aS u V->∀x∈es,gM V x.2.1 x.2.2
 is:∀x∈es,x.2.1.dW x.2.2=x.1.op
theorem oA.open{u:World}{sv:Value}{l:List ua}(h:oA base u sv l):∃(es:List (ua×(jO×List ig))) (av:eO) (c:Nat),es.map (·.1)=l/\sv=.slice av es.length c/\(es=[]\/∃bk o,av=some ⟨bk,o,none⟩/\alp u bk o c es):=by
 obtain⟨es,e1,e2,e3⟩:=h;obtain⟨av,c,hv⟩:=e2.form;rw[ai]at hv;refine⟨es,av,c,e1,hv,?_⟩;rcases e2.at.2 with ⟨_,_,_,e,_⟩|⟨bk,o,c',hf,g1,g2,g3,g4⟩
 ·exact Or.inl (by simpa using e)
 ·rw[hv]at hf;injection hf with f1 f2 f3
  refine Or.inr ⟨bk,o,f1,fun V hV j x hx i v hi=>?_,fun V hV x hx=>(e3 x hx).fit.dm hV,fun x hx=>(e3 x hx).is⟩;exact og (g4 j (Fy x) (by rw[List.getElem?_map,hx];rfl) i v hi) hV id
