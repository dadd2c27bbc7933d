/- Lemmas for the law's walk. -/
import Derived.Test.YtnckmcnffadjoaaGreatDoorPm19
set_option maxRecDepth 100000
set_option maxHeartbeats 16000000
set_option linter.unusedSimpArgs false
namespace Go.Proofs.YtnckmcnffadjoaaGreatDoor
open Go.Proofs.Tryz
open Go.RowKit
variable {k:Int} {a w:World} {T C:Nat} {t:iy} {o:jQ} {v:Value} {hs:List ig} {y:dI}
section
variable {xw : Option (Nat × dI)} {a U U' : World} {T : Nat} {t : iy}
theorem Mn(h:cO xw a U T t)(n:Int)(hk:k+2<=1000000)(hf:fY k t)(hl:t.gz.length<1000000)(SS:∀i,i<6->(t.tab i).does=2->aa4 a (t.tab i).seen (t.tab i).op) :
  aB 21 #[.pointer (some ⟨T,0,none⟩),.int .i64 n] U (nE xw a U T (jH t n)):=by
 obtain⟨x1,mM⟩:∃x1,x1=U.alloc (.cells #[.int .i64 0,.string ⟨#[]⟩,.int .i64 0] 30):=⟨_,rfl⟩;have dr:Fr aS U x1:=by rw[mM];exact(ae aS U).alloc _
 have kR0:x1.heap[U.heap.size]?=some (.cells bT 30 (0,0)):=by rw[mM];exact aC _ _
 obtain⟨R,hR⟩:∃R,R=U.heap.size:=⟨_,rfl⟩;rw[<-hR]at kR0;have KR:=O kR0;have HR:=O hR;have HX:=O mM;have Ym:=O (eJ dr);have Yp:=O (show U.heap.size<=R from ab);have Yq:=O (show a.heap.size<=R by have:=h.fr.size;omega);have h1:=h.dm dr;have H1:=O h1;have HF:=O hf;have HK:=O hk;clear mM kR0 hR;cases hn:yy n
 ·as_aux_lemma =>
   have HE:=O (show jH t n=(t,rep 0,false,2)by unfold jH;rw[hn];rfl);have HC:=O (IU x1 T hn);clear hn h h1 hf hk hl SS dr;go_enter func21,ntmps21;go_wp2_with fail
   rw[<-HX.o, <-HR.o];refine HC.o.mono ?_;rintro e u⟨rfl,rfl⟩;unfold xi;go_wp2_with (first|((with_reducible refine cW 30 ?_);refine aF rfl 30 (.tmp 4) (.tmp 17) rfl R #[.int .i64 0,.string ⟨#[]⟩,.int .i64 0] rfl rfl _ bT KR.o (bf _ rfl) rfl bW ?_)|fail)
   refine aU (jv bC _ _ R 30 #[.int .i64 0,.string ⟨#[]⟩,.int .i64 0] (0,0) _ rfl (aY _ R _ _ _ _ KR.o) underlying30 rfl (bf _ rfl)) rfl ?_;rw[HE.o];exact step_end H1.o Ym.o Yp.o Yq.o KR.o _ rfl
 ·obtain⟨i,rfl,hi⟩:=CN hn;have e1:((i:Int)).toNat=i:=rfl;have HC:=O (Ot x1 T hi);have HI:=O hi;obtain⟨cd,Jc,Xr, -, -⟩:=h1.cells hi;have hdo:=hf.does i;by_cases hd:(t.tab i).does=0
  ·as_aux_lemma =>
    have HE:=O (show jH t (i:Int)=(t,rep 0,false,8)by unfold jH;rw[hn,az rfl,e1,az hd]);rw[hd]at cd;clear hn h h1 hf hk hl SS dr hd hdo hi Jc Xr;go_enter func21,ntmps21;go_wp2_with fail
    rw[<-HX.o, <-HR.o];refine HC.o.mono ?_;rintro e u⟨rfl,rfl⟩;go_wp2_with (first|((with_reducible refine cW 30 ?_);refine aF rfl 30 (.tmp 4) (.tmp 39) rfl R #[.int .i64 0,.string ⟨#[]⟩,.int .i64 0] rfl rfl _ bT KR.o (bf _ rfl) rfl bW ?_)|fail)
    refine aU (jv bC _ _ R 30 #[.int .i64 0,.string ⟨#[]⟩,.int .i64 0] (0,0) _ rfl (aY _ R _ _ _ _ KR.o) underlying30 rfl (bf _ rfl)) rfl ?_;rw[HE.o];exact step_end H1.o Ym.o Yp.o Yq.o KR.o _ rfl
  ·rcases(show(t.tab i).does=1\/(t.tab i).does=2\/(t.tab i).does=3 from ab)with yS|sI|hd3
   ·skip
    have HE:=O (show jH t (i:Int)=({(t.put i {t.tab i with seen:=t.w,num:=t.num,does:=2})with steps:=t.steps+1},rep 0,false,0)by unfold jH;rw[hn,az rfl,e1,aq hd,step1 yS]);rw[yS]at cd;have hkr:x1.drew.heap[R]?=some (.cells bT 30 (0,0)):=KR.o;have h2:=h1.dm (aA (ae aS x1));obtain⟨B,g,sv,sb,p1,p2,p3,p4⟩:=h2.ex;obtain⟨pv,hw⟩:=p2.at (i:=6) (B:=B) (x:=t.w) rfl;have TH:=O (Bm _ _ _ _ _ hw hf.inv.tP)
    have VO:=O (fun U' C qv hF hc hn=>SM (U':=U') (C:=C) (qv:=qv) hi p1 p2 p3 p4 ab h2.low h2.fr hF hc hn);have P8:=O p1;have m0:=p1.main;have mn:=p1.num;clear hn h h1 hf hk hl SS dr hd hdo hi Jc Xr hw p1 p2 p3 p4 h2 hkr;go_enter func21,ntmps21;go_wp2_with fail
    rw[<-HX.o, <-HR.o];refine HC.o.mono ?_;rintro e u⟨rfl,rfl⟩;go_wp2_with fail
    refine wp_region_held_drew (S:=(fun V=>V.cell? ⟨T,0,none⟩=some (.pointer (some ⟨B,0,none⟩))/\V.rangeAt T 1 (lh t.num))) af (by exact⟨m0,mn⟩) ?_;intro Az;refine aW 0 43 rfl ?_;refine aW 1 44 rfl ?_;refine aW 2 45 rfl ?_;refine aW 3 46 rfl ?_;refine aW 4 47 rfl ?_;refine aW 5 48 rfl ?_;refine aW 6 49 rfl ?_;refine aW 8 51 rfl ?_;refine aW 9 52 rfl ?_;refine aW 10 53 rfl ?_
    refine wF 11 54 rfl (gW bC 70 (.tmp 53) rfl T 1 rfl (lh t.num) _ (fun w hw=>hw.2) underlying70 rfl af) ?_
    try simp only[Act.put,sA,sB,sC]
    refine eT 7 rfl fun K hK=>?_;go_simp;refine TH.o.mono ?_;rintro e u2⟨C,qv,rfl,hc,yg,Dj⟩;have q:=VO.o u2 C qv yg hc Dj;obtain⟨q1,q2,q3,q4,q5⟩:=q;have JC:=O q1;have Yg:=O q2;have HTH:=O q5;have b2:=P8.o.fr yg id;have d25:u2.cell? ⟨T,17+i*45+25,none⟩=some (g i).sp:=b2.tab i HI.o 25 _ rfl;have f25:=b2.free (17+i*45+25);have pV:=O b2;have VS:=O yg;rw[yS]at q3
    have HS:=O (show u2.cell? ⟨T,0,none⟩=some (.pointer (some ⟨B,0,none⟩))/\u2.rangeAt T 1 (lh t.num)from⟨b2.main,b2.num⟩);refine hK.out _ _ HS.o ?_;intro yu;clear hK K q1 q2 q5 hc yg Dj b2
    try simp only[Act.put,sA,sB,sC]
    refine aW 12 55 rfl ?_;refine aW 13 56 rfl ?_;clear Az yu;refine eT 14 rfl fun K hK=>?_;go_simp;have B7:(u2.setCell ⟨T,17+i*45+25,none⟩ (.pointer (some ⟨C,0,none⟩))).cell? ⟨T,0,none⟩=some (.pointer (some ⟨B,0,none⟩))/\(u2.setCell ⟨T,17+i*45+25,none⟩ (.pointer (some ⟨C,0,none⟩))).rangeAt T 1 (lh t.num):=⟨eU (vs:=[_]) HS.o.1 (Or.inl ab),yC HS.o.2 (by rw[nD];omega)⟩;refine hK.out _ _ B7 ?_;intro Fu
    clear hK K d25 f25 Fu;generalize u2.setCell ⟨T,17+i*45+25,none⟩ (.pointer (some ⟨C,0,none⟩))=u3 at *
    try simp only[Act.put,sA,sB,sC]
    refine aW 15 57 rfl ?_;refine aW 16 58 rfl ?_;refine wpAnyH_ready (rs:=[17]) af aR ?_;refine AllReadyH.cons (o:=⟨none,_,_,_,_,_⟩) rfl (fun K hK=>?_) AllReadyH.nil;refine rW rfl 70 (.tmp 58) (.tmp 54) rfl T (17+i*45+26) (lh t.num).toArray rfl rfl HTH.o af (Xq t.num) ?_
    have Bh:(u3.setCells T (17+i*45+26) (lh t.num)).cell? ⟨T,0,none⟩=some (.pointer (some ⟨B,0,none⟩))/\(u3.setCells T (17+i*45+26) (lh t.num)).rangeAt T 1 (lh t.num):=⟨eU B7.1 (Or.inl ab),bZ B7.2 T _ _ (Or.inr (Or.inl (by rw[nD];omega)))⟩;refine hK.out _ _ Bh ?_;intro hS5;clear hK K hS5 B7;rw[show(lh t.num).toArray.toList=lh t.num from rfl];generalize u3.setCells T (17+i*45+26) (lh t.num)=u4 at *
    try simp only[Act.put,sA,sB,sC]
    refine aW 18 59 rfl ?_;refine aW 19 60 rfl ?_;refine wpAnyH_ready (rs:=[20]) af aR ?_;have q4':=q4 (17+i*45);have HS4:=O Bh;clear q4;have X3:u4.there T (17+i*45) 1:=fun j hj=>by
     have e:j=0:=ab;subst e;exact⟨by rw[Nat.add_zero,q3];rfl,q4'⟩
    refine AllReadyH.cons (o:=⟨none,_,_,_,_,_⟩) rfl (fun K hK=>?_) AllReadyH.nil;refine EA rfl 3 (.tmp 60) _ rfl T (17+i*45) (.int .i64 2) rfl rfl rfl X3 af rfl ?_;have Bh:=HS4.o
    have hS6:(u4.setCell ⟨T,17+i*45,none⟩ (.int .i64 2)).cell? ⟨T,0,none⟩=some (.pointer (some ⟨B,0,none⟩))/\(u4.setCell ⟨T,17+i*45,none⟩ (.int .i64 2)).rangeAt T 1 (lh t.num):=⟨eU (vs:=[_]) Bh.1 (Or.inl ab),yC Bh.2 (by rw[nD];omega)⟩;refine hK.out _ _ hS6 ?_;intro hS7;clear hK K hS7 hS6 Bh HS4 q3 q4' X3;generalize u4.setCell ⟨T,17+i*45,none⟩ (.int .i64 2)=u5 at *
    try simp only[Act.put,sA,sB,sC]
    refine wpAnyH_done af ?_ _;generalize (lh t.num).toArray=nn;have UH:gR U u5:=by
     obtain⟨c,hc,_⟩:=pV.o.eL;exact(Ym.o.trans (eJ ((aA (ae aS u)).trans VS.o))).tabs hc Yg.o
    have BN:u5.heap[R]?=some (.cells bT 30 (0,0)):=by
     obtain⟨c,hc,_⟩:=pV.o.eL;refine(((lA u).trans (eJ ((aA (ae aS u)).trans VS.o))).tabs hc Yg.o).block KR.o mK
    obtain⟨-, Jc,Xr, -, -⟩:=JC.o.cells HI.o;have cf:=Xr 287;have s1:=HF.o.steps.1;have s2:=HF.o.steps.2;have hkk:=HK.o;have akG:u5.cell? ⟨T,287,none⟩=some (.int .i64 t.steps):=Jc;obtain⟨tk1,Xs⟩:=JC.o.tick (t.steps+1);have HT1:=O tk1;obtain⟨cT,Ja⟩:=JC.o.kind;have HK6:=O (UH.tabs Ja Xs);have JA:=O (Xs.keep BN (fun e=>by cases(show R=T from e);rw[Ja]at BN;cases BN));clear tk1 Xs UH BN Ja Jc Xr
    go_wp2_with (first|((with_reducible refine cW 30 ?_);refine aF rfl 30 (.tmp 4) (.tmp 85) rfl R #[.int .i64 0,.string ⟨#[]⟩,.int .i64 0] rfl rfl _ bT JA.o (bf _ rfl) rfl bW ?_)|fail)
    refine aU (jv bC _ _ R 30 #[.int .i64 0,.string ⟨#[]⟩,.int .i64 0] (0,0) _ rfl (aY _ R _ _ _ _ JA.o) underlying30 rfl (bf _ rfl)) rfl ?_;rw[HE.o];exact step_end HT1.o HK6.o Yp.o Yq.o JA.o _ rfl
   ·as_aux_lemma =>
     have HE:=O (show jH t (i:Int)=({(t.put i {t.tab i with jm:=(ku (t.tab i).seen (t.tab i).op).2,seen:=(ku (t.tab i).seen (t.tab i).op).1,does:=3})with steps:=t.steps+1},rep 0,false,0)by unfold jH;rw[hn,az rfl,e1,aq hd,step2 sI]);rw[sI]at cd;have h2:=h1.dm (aA (ae aS x1));obtain⟨B,g,sv,sb,p1,p2,p3,p4⟩:=h2.ex;obtain⟨go1,go2⟩:=((p4 i hi).1 ab).fits;have qx:=(p4 i hi).2 (Or.inl sI)
     have HDO:=O (cO.seen hi (Or.inl sI) p1 p2 p3 p4 h2.low h2.fr (x':=(ku (t.tab i).seen (t.tab i).op).1) (fun pv hw=>by
      exact SS i hi sI _ _ pv _ _ go2 hw h2.fr go1))
     have HWK:=O (fun U' q1 q2 q3 q4 q5=>SN (U:=U') (B:=B) (xw:=xw) (a:=a) (g:=g) (sv:=sv) (sb:=sb) (x':=(ku (t.tab i).seen (t.tab i).op).1) (ku (t.tab i).seen (t.tab i).op).2 hi q1 q2 q3 q4 (fun n hn=>(p4 n hn).2) sI h2.low q5);have m25:x1.drew.cell? ⟨T,17+i*45+25,none⟩=some (.pointer (some ⟨sb i,0,none⟩)):=by rw[<-qx];exact p1.tab i hi 25 _ rfl
     have mop:x1.drew.rangeAt T (17+i*45+1) (g i).o.cells:=kS (p:=[.int .i64 (t.tab i).does]) (q:=(g i).o.cells) (p1.tab i hi);have xN:=O qx;have HOC:=O (show(g i).o.cells.length=22 from rfl);have P8:=O p1;obtain⟨r,hr⟩:∃r,r=(ku (t.tab i).seen (t.tab i).op).2:=⟨_,rfl⟩;rw[<-hr]at HDO HWK HE;obtain⟨oc,Ia⟩:∃oc,oc=(g i).o.cells:=⟨_,rfl⟩;have HOV:=O Ia;rw[<-Ia]at HDO mop HOC
     clear hn h h1 hf hk hl SS dr hd hdo hi Jc Xr p1 p2 p3 p4 h2 qx go1 go2 hr Ia;go_enter func21,ntmps21;go_wp2_with fail
     rw[<-HX.o, <-HR.o];refine HC.o.mono ?_;rintro e u⟨rfl,rfl⟩;go_wp2_with fail
     refine wp_region_held_drew (S:=(fun V=>V.cell? ⟨T,17+i*45+25,none⟩=some (.pointer (some ⟨sb i,0,none⟩))/\V.rangeAt T (17+i*45+1) oc)) af (by exact⟨m25,mop⟩) ?_;intro Az;refine aW 0 63 rfl ?_;refine aW 1 64 rfl ?_;refine aW 2 65 rfl ?_;refine aW 3 66 rfl ?_;refine aW 4 67 rfl ?_;refine aW 5 68 rfl ?_;refine aW 6 69 rfl ?_;refine aW 7 70 rfl ?_;refine aW 8 71 rfl ?_
     refine wF 9 72 rfl (gW bC 41 (.tmp 71) rfl T (17+i*45+1) rfl oc _ (fun w hw=>hw.2) underlying41 rfl (by rw[HOC.o];kernel_rfl)) ?_
     try simp only[Act.put,sA,sB,sC]
     refine eT 10 rfl fun K hK=>?_;go_simp;refine HDO.o.mono ?_;rintro e u2⟨rfl,⟨y1,y2,y3,y4,y5⟩,y6⟩;obtain⟨q1,q2,q3,q4,q5⟩:=HWK.o u2 y1 y2 y3 y4 y5;have JC:=O q1;have Yg:=O q2;have HTH:=O q5;have pV:=O y1;have HY6:=O (gR.Ow y6);rw[sI]at q3
     have HS:=O (show u2.cell? ⟨T,17+i*45+25,none⟩=some (.pointer (some ⟨sb i,0,none⟩))/\u2.rangeAt T (17+i*45+1) oc from⟨by rw[<-xN.o];exact y1.tab i HI.o 25 _ rfl,by rw[HOV.o];exact kS (p:=[.int .i64 (t.tab i).does]) (q:=(g i).o.cells) (y1.tab i HI.o)⟩);refine hK.out _ _ HS.o ?_;intro yu;clear hK K q1 q2 q5 y1 y2 y3 y4 y5 y6 Az yu
     try simp only[Act.put,sA,sB,sC]
     refine aW 11 74 rfl ?_;refine aW 12 75 rfl ?_;refine wpAnyH_ready (rs:=[13]) af aR ?_;refine AllReadyH.cons (o:=⟨none,_,_,_,_,_⟩) rfl (fun K hK=>?_) AllReadyH.nil;refine rW rfl 30 (.tmp 75) (.tmp 73) rfl T (17+i*45+42) (qp r).toArray rfl rfl HTH.o af (Xp r) ?_
     have Bh:(u2.setCells T (17+i*45+42) (qp r)).cell? ⟨T,17+i*45+25,none⟩=some (.pointer (some ⟨sb i,0,none⟩))/\(u2.setCells T (17+i*45+42) (qp r)).rangeAt T (17+i*45+1) oc:=⟨eU HS.o.1 (Or.inl ab),bZ HS.o.2 T _ _ (Or.inr (Or.inl (by rw[HOC.o];omega)))⟩;refine hK.out _ _ Bh ?_;intro hS5;clear hK K hS5;rw[show(qp r).toArray.toList=qp r from rfl];generalize u2.setCells T (17+i*45+42) (qp r)=u4 at *
     try simp only[Act.put,sA,sB,sC]
     refine aW 14 76 rfl ?_;refine aW 15 77 rfl ?_;refine wpAnyH_ready (rs:=[16]) af aR ?_;have q4':=q4 (17+i*45);have HS4:=O Bh;clear q4 Bh;refine AllReadyH.cons rfl (fun K hK=>?_) AllReadyH.nil;go_simp;have Bh:=HS4.o
     have hS6:(u4.setCell ⟨T,17+i*45,none⟩ (.int .i64 3)).cell? ⟨T,17+i*45+25,none⟩=some (.pointer (some ⟨sb i,0,none⟩))/\(u4.setCell ⟨T,17+i*45,none⟩ (.int .i64 3)).rangeAt T (17+i*45+1) oc:=⟨eU (vs:=[_]) Bh.1 (Or.inr (by show 17+i*45+1<=_;omega)),bZ Bh.2 T (17+i*45) [_] (Or.inr (Or.inr (by show 17+i*45+1<=_;omega)))⟩;refine hK.out _ _ hS6 ?_;intro hS7;clear hK K hS7 hS6 Bh HS4 q3 q4'
     generalize u4.setCell ⟨T,17+i*45,none⟩ (.int .i64 3)=u5 at *
     refine wpAnyH_done af ?_ _;have UH:gR U u5:=by
      obtain⟨c,hc,_⟩:=pV.o.eL;exact(Ym.o.trans ((eJ (aA (ae aS u))).trans HY6.o)).tabs hc Yg.o
     have BN:u5.heap[R]?=some (.cells bT 30 (0,0)):=by
      obtain⟨c,hc,_⟩:=pV.o.eL;refine(((lA u).trans ((eJ (aA (ae aS u))).trans HY6.o)).tabs hc Yg.o).block KR.o mK
     obtain⟨-, Jc,Xr, -, -⟩:=JC.o.cells HI.o;have cf:=Xr 287;have s1:=HF.o.steps.1;have s2:=HF.o.steps.2;have hkk:=HK.o;have akG:u5.cell? ⟨T,287,none⟩=some (.int .i64 t.steps):=Jc;obtain⟨tk1,Xs⟩:=JC.o.tick (t.steps+1);have HT1:=O tk1;obtain⟨cT,Ja⟩:=JC.o.kind;have HK6:=O (UH.tabs Ja Xs);have JA:=O (Xs.keep BN (fun e=>by cases(show R=T from e);rw[Ja]at BN;cases BN));clear tk1 Xs UH BN Ja Jc Xr
     go_wp2_with (first|((with_reducible refine cW 30 ?_);refine aF rfl 30 (.tmp 4) (.tmp 85) rfl R #[.int .i64 0,.string ⟨#[]⟩,.int .i64 0] rfl rfl _ bT JA.o (bf _ rfl) rfl bW ?_)|fail)
     refine aU (jv bC _ _ R 30 #[.int .i64 0,.string ⟨#[]⟩,.int .i64 0] (0,0) _ rfl (aY _ R _ _ _ _ JA.o) underlying30 rfl (bf _ rfl)) rfl ?_;rw[HE.o];exact step_end HT1.o HK6.o Yp.o Yq.o JA.o _ rfl
   ·as_aux_lemma =>
     have HE:=O (show jH t (i:Int)=((jt {t with steps:=t.steps+1} i).1,(jt {t with steps:=t.steps+1} i).2.1,(jt {t with steps:=t.steps+1} i).2.2,0)by unfold jH;rw[hn,az rfl,e1,aq hd,acM hd3]);rw[hd3]at cd;have cf:=Xr 287;have s1:=hf.steps.1;have s2:=hf.steps.2;obtain⟨tk1,Xs⟩:=h1.tick (t.steps+1);obtain⟨cT,Ja⟩:=h1.kind;have HCM:=O (OW tk1 hi hd3 (show k+1<1000000 from ab) hf.tick hl)
     have HK5:=O ((eJ dr).tabs Ja Xs);have MW:=O (Xs.keep KR.o (fun e=>by
      cases(show R=T from e);have:=KR.o;rw[Ja]at this;cases this))
     clear hn h h1 hf hl SS dr hd hdo hi Xr tk1 Xs Ja;go_enter func21,ntmps21;go_wp2_with fail
     rw[<-HX.o, <-HR.o];refine HC.o.mono ?_;rintro e u⟨rfl,rfl⟩;go_wp2_with fail
     refine HCM.o.mono ?_;rintro e w6⟨rfl,z1,z2⟩;have Qx:=O z1;have HZ2:=O z2;have HZR:=O (z2.block MW.o mK);clear z1 z2;generalize jt {t with steps:=t.steps+1} i=cr at *
     go_wp2_with (first|((with_reducible refine cW 30 ?_);refine aF rfl 30 (.tmp 4) (.tmp 34) rfl R #[.int .i64 cr.2.1.what,.string cr.2.1.head,.int .i64 cr.2.1.cert] rfl rfl _ bT HZR.o (bf _ rfl) rfl bW ?_)|fail)
     refine aU (jv bC _ _ R 30 #[.int .i64 cr.2.1.what,.string cr.2.1.head,.int .i64 cr.2.1.cert] (0,0) _ rfl (aY _ R _ _ _ _ HZR.o) underlying30 rfl (bf _ rfl)) rfl ?_;rw[HE.o];exact step_end Qx.o (HK5.o.trans HZ2.o) Yp.o Yq.o HZR.o _ rfl
end
theorem aa4.any{x:dI}{op:iY}(hi:lV x)(ht:kO a):aa4 a x op:=fun V B pv o hs ho hw hf td=>by
 have:=Qq hw hf hi ht td;rw[ho]at this;exact this
theorem Al{xw:Option (Nat×dI)}{U:World}(h:cO xw a U T t)(n:Int)(hk:k+2<=1000000)(hf:fY k t)(hl:t.gz.length<1000000)(ht:kO a) :
  aB 21 #[.pointer (some ⟨T,0,none⟩),.int .i64 n] U (nE xw a U T (jH t n)) :=
 Mn h n hk hf hl (fun i _ hd=>aa4.any (hf.seen i (Or.inl hd)) ht)
section
variable {xw : Option (Nat × dI)} {a U U' : World} {T : Nat} {t : iy}
def Xy(U:World)(es:List (WB×(jQ×List ig)))(l i:Value)(wr:World):Prop :=
 ∃k:Nat,k<=es.length/\i=.int .i64 k/\Fr aS U wr/\∃fs:List (WB×(jQ×List ig)),fs.map (·.1)=(es.take k).map (·.1)/\OwnRows U.heap.size 43 28 wr l (fs.map LR)/\∀x∈fs,kp U.heap.size wr x.2 x.1.op
theorem Xz:(prog.info? 43).map (·.zero)=some (some (.agg Ew)):=af
theorem Jf:(prog.info? 43).map (·.size)=some 28:=af
theorem aa_{l:aX}(h:∀u∈l,u.oneCell'=true):l.toArray.all (·.oneCell')=true:=bX h
theorem aa'{w9:World}{N:Nat}{ev:WB}{nh:Nat}{ah:eV}{ch:Nat}(a9:eV)(c9:Nat){y:aX}{i0:TypeInfo}(k_:i0.size=28)(hy:y=TP ev.tab o ah nh ch ev.jm ev.mY ev.fin)(k9:w9.heap[N]?=some (.cells y.toArray 43 (0,0))){base:Nat}{wr:World}{xs:cZ}(hF:Fr aS wr w9)(hN:N=wr.heap.size)(ho:OwnRows base 43 28 wr v xs) :
  ∃(y2:aX) (W3:World),y2=TP ev.tab o a9 nh c9 ev.jm ev.mY ev.fin/\W3=w9.setCell ⟨N,12,none⟩ (.slice a9 nh c9)/\W3.heap[N]?=some (.cells y2.toArray 43 (0,0))/\Fr (one N) w9 W3/\y2.length=28/\(∀u∈y2,u.oneCell'=true)/\Instr.fill (fun i=>some (i*i0.size,i0.size)) ((Array.range (1*i0.size)).map ((Value.agg Ew).cells[· %(Value.agg Ew).cells.size]!)) [(0,.agg y2.toArray)]=some y2.toArray/\OwnRows base 43 28 W3 v xs:=by
 have TN:Fr (one N) w9 (w9.setCell ⟨N,12,none⟩ (.slice a9 nh c9)):=(ae (one N) _).setCell (p:=⟨N,12,none⟩) (fun _=>rfl) _;refine⟨_,_,rfl,rfl,?_,TN,rfl,I9 _ _ _ _ _ _ _ _,by rw[k_];exact OO _ _ _ _ _ _ _ _,(ho.fr hF (fun _ _ h=>h)).fr TN (fun b hb e=>?_)⟩
 ·rw[cg k9,hy];rfl
 ·have:=ho.lt b hb;have e':b=N:=e;omega
theorem SV(h:cO xw a U T t)(hl:t.gz.length<1000000) :
  aB 10 #[.pointer (some ⟨T,0,none⟩)] U fun e w'=>∃sv,e=.returned sv/\qQ U.heap.size w' sv t.gz/\Fr aS U w':=by
 obtain⟨B,g,sv,sb,h1,h2,⟨es,QH,mq,Cq⟩,h4⟩:=h.ex;obtain⟨asv,csv,Xa⟩:=mq.form;rw[ai]at Xa;subst Xa;have aqi:es.length<1000000:=by rw[<-ai (f:=(·.1)),QH];exact hl
 have HRW:=O (fun V (hV:Fr aS U V)=>bh mq.at hV);have HOP:=O (fun V (hV:Fr aS U V) x (hx:x∈es)=>(Cq x hx).kept (ju hV));have akM:=h1.st;obtain⟨i0,qA,po,k_,lp⟩:=info_parts I_;have HES:=O QH;clear h h1 h2 h4 QH mq Cq;go_enter func10,ntmps10
 go_wp2_with (at_make
              refine wpList_make_own _ rfl _ _ 25 rfl U.heap.size 43 i0 (.agg Ew) 28 underlying25 qA po k_ .i64 .i64 _ es.length rfl rfl rfl (by rw[lp];omega) fx (ay _) ?_
              intro w1 rA akN
              have Rw:Fr aS U w1:=fq (ae _ _) akN (fun k hk=>by cases hk)
              have akO:=o9 akM Rw id)
 go_loopw[3,17] (Xy U es) (fun _ i _=>es.length-(intOf i).toNat)
 case atStart=>exact⟨0,aQ _,rfl,Rw,[],rfl,⟨aR,rA⟩,aR⟩
 case round =>
  obtain⟨k,hk,rfl,hF,fs,kH,cR,Cq⟩:=hrel;obtain⟨al,cl,Ti⟩:=cR.form;rw[ai]at Ti;subst Ti;clear akO Rw rA akN akM;by_cases fo:k<es.length
  ·have dT:=HRW.o wr hF;rcases dT.2 with ⟨_,_,_,e,_⟩|⟨bk,o0,c,hf,g1,g2,g3,g4⟩
   ·have:es=[]:=by simpa using e
    subst this;exact absurd fo (ct _)
   ·rw[ai]at hf;cases hf;have hx:=List.getElem?_eq_getElem fo;generalize es[k]=x at hx;have iD:x∈es:=cq hx;have hr:wr.rangeAt bk (o0+k*28) (LR x):=fun j v hj=>g4 k (LR x) (by rw[List.getElem?_map,hx];rfl) j v hj;have HOX:=O (fun V (hV:Fr aS U V)=>HOP.o V hV x iD);obtain⟨ev,o,hs⟩:=x;have Di:=HOX.o wr hF;obtain⟨ah,ch,hh⟩:=Di.own.form;rw[ai]at hh;have rR:hs.length<100000:=Di.fit.aJ.2.1
    have MT:=O (show(es.take (k+1)).map (·.1)=(es.take k).map (·.1)++[ev]by rw[cC,hx];simp);obtain⟨y,hy⟩:∃y,y=LR (ev,(o,hs)):=⟨_,rfl⟩;rw[<-hy]at hr;have hy':y=TP ev.tab o ah hs.length ch ev.jm ev.mY ev.fin:=hy.trans (I8 hh ev.op ev.jm ev.mY ev.fin);have HY:=O hy';have MX:=O (show y.length=28 by rw[hy];rfl)
    have Yj:=O (show∀u∈y,u.oneCell'=true by rw[hy,show LR (ev,(o,hs))=TP ev.tab o ah hs.length ch ev.jm ev.mY ev.fin from I8 hh ev.op ev.jm ev.mY ev.fin];exact I9 _ _ _ _ _ _ _ _);have HR:=O hr;have HHH:=O hh;have Iu:=O cR;have aqF:=O Cq;have HF:=O hF;have Ve:=O kH;obtain⟨N,hN⟩:∃N,N=wr.heap.size:=⟨_,rfl⟩;have hUN:U.heap.size<=N:=by have:=hF.size;omega
    have EU:=O (show(wr.alloc (.cells Ew 43)).heap[N]?=some (.cells Ew 43 (0,0))from by rw[hN];exact aC _ _);have HN:=O hN;have hke:k<es.length:=fo;clear dT hr hx hy hy' hh Di cR Cq hF kH hN g4;go_wp2_with (first
     |((with_reducible refine jn ⟨some 20,_,_,_,_,_⟩ ?_)
       refine a_ rfl 43 (.tmp 19) rfl bk (o0+k*28) rfl y _ HR.o underlying43 rfl (by rw[MX.o];exact Jf) ?_
       refine kT rfl 43 rfl (some 5) rfl Ew Xz N HN.o.symm ?_
       refine aF rfl 43 (.tmp 5) (.tmp 20) rfl N y.toArray rfl rfl 43 Ew EU.o (by rw[aZ,MX.o];exact Jf) (by have e:y.toArray.size=y.length:=rfl;rw[e,MX.o];rfl) (aa_ Yj.o) ?_
       have hFW:Fr aS U ((wr.alloc (.cells Ew 43)).setRow N y.toArray):=gV (HF.o.alloc _) hUN _
       have Yr:Fr aS wr ((wr.alloc (.cells Ew 43)).setRow N y.toArray):=gV ((ae aS wr).alloc _) (by rw[HN.o];exact ay _) _
       have kW:((wr.alloc (.cells Ew 43)).setRow N y.toArray).heap[N]?=some (.cells y.toArray 43 (0,0)):=jR EU.o
       generalize (wr.alloc (.cells Ew 43)).setRow N y.toArray=W1 at *
       have z12:W1.cell? ⟨N,12,none⟩=some (.slice ah hs.length ch):=by
         simp only[World.cell?,kW,HY.o]
         rfl
       have Ju:=O (show oL W1 (.slice ah hs.length ch) hs from by
         have q:=(HOX.o W1 hFW).fit.ey
         rw[HHH.o]at q
         exact q)
       have hlw:U.heap.size<=W1.heap.size:=hFW.size)
     |(at_builtin
       refine Ad rfl _ _ rfl U.heap.size _ [] rfl (dy _ _ _ _) _ (hs.map ig.cells) rfl Ju.o bI hlw ?_
       intro v9 w9 uX aaO
       rw[List.nil_append]at uX
       obtain⟨a9,c9,hv9⟩:=uX.form
       rw[ai]at hv9
       subst hv9
       have TM:Fr aS W1 w9:=fq (ae _ _) aaO (fun k hk=>by cases hk)
       have k9:=TM.keep kW id
       have z9:w9.cell? ⟨N,12,none⟩=some (.slice ah hs.length ch):=o9 z12 TM id
       have z9f:w9.frozen? ⟨N,12,none⟩=false:=by simp[World.frozen?,k9])
     |((with_reducible refine jn ⟨some 30,_,_,_,_,_⟩ ?_)
       obtain⟨y2,W3,hy2,hW3,kW2,TN,afL,acO,Mw,fu⟩:=aa' a9 c9 k_ HY.o k9 (Yr.trans TM) HN.o Iu.o
       have HY2:=O hy2
       have k9':=k9
       clear hy2 z12 z9 z9f k9
       rw[<-hW3]
       refine aH rfl 43 (.tmp 5) rfl N rfl _ y2.toArray (0,0) _ kW2 underlying43 rfl (by rw[aZ,afL];exact Jf) ?_
       refine xK rfl 25 43 1 _ rfl (some 31) rfl y2.toArray i0 (.agg Ew) [(0,.agg y2.toArray)] (by simp only[eF,cE,dt];rfl) underlying25 qA po (by rw[k_];decide) (by rw[k_];decide) Mw W3.heap.size rfl ?_
       have hUW:U.heap.size<=W3.heap.size:=aG hlw (aG TM.size TN.size)
       clear Mw)
     |(at_builtin
       refine nQ rfl _ _ 25 43 rfl 28 328 (.agg Ew) underlying25 I_ rfl ag ag U.heap.size (.slice al fs.length cl) (fs.map LR) rfl (fu.alloc _) W3.heap.size 1 y2 rfl afL acO (fun i u hi=>by rw[World.cell?_alloc_mark];simpa using hi) (by rw[ai];have q:=ar List.length Ve.o;rw[ai,ai,aM]at q;omega) bI ?_
       intro v' w4 fa Ci)
     |fail)
    have Ty:Fr (own (.slice al fs.length cl)) W3 w4:=fq ((ae (own (.slice al fs.length cl)) W3).alloc _) Ci (fun k hk _=>hk);have Y7:kp U.heap.size w9 ({o with aJ:={o.aJ with ey:=.slice a9 hs.length c9}},hs) ev.op:=by
     have q:=HOX.o w9 (hFW.trans TM);exact⟨{q.fit with ey:=uX.at},q.is,uX⟩
    have key:∀ {x:jQ×List ig} {p:iY},kp U.heap.size w9 x p->kp U.heap.size w4 x p:=fun q=>by
     have q3:=q.one (k9') ag TN;exact q3.rows (q3.own.fr Ty fun b hb Sm=>by
      obtain⟨c',X_⟩:=fu.BM Sm;exact q3.own.not X_ ag hb)
    have acP:Xy U es v' (.int .i64 ((k+1:Nat):Int)) w4:=by
     refine⟨k+1,ab,rfl,?_,fs++[(ev,({o with aJ:={o.aJ with ey:=.slice a9 hs.length c9}},hs))],?_,?_,fun x hx=>?_⟩
     ·refine((hFW.trans TM).step TN (fun k hk e=>?_)).step Ty (fun k hk e=>?_)
      ·have e':k=N:=e;omega
      ·have:=fu.block k e;omega
     ·rw[bG,Ve.o,MT.o];rfl
     ·rw[bG,cE,dt,show LR (ev,({o with aJ:={o.aJ with ey:=.slice a9 hs.length c9}},hs))=TP ev.tab o a9 hs.length c9 ev.jm ev.mY ev.fin from I8 (o:={o with aJ:={o.aJ with ey:=.slice a9 hs.length c9}}) rfl ev.op ev.jm ev.mY ev.fin, <-HY2.o];exact fa
     ·rcases bR.1 hx with hx|hx
      ·exact key ((aqF.o x hx).kept (ju (Yr.trans TM)))
      ·rcases df.1 hx with rfl
       exact key Y7
    have aqH:=O acP;clear acP key Y7 Ty fa Ci fu TN kW2 acO afL hW3;go_wp2;go_roundw
    case rel =>
     obtain⟨k',r1,r2,r3⟩:=aqH.o;exact⟨k',r1,r2.trans bC,r3⟩
    case measure=>simp[intOf];omega
  ·have HE:=O (show fs.map (·.1)=t.gz by rw[kH,aD ab,HES.o]);have HO:=O cR;have HP:=O Cq;have Q2:=O hF;clear cR Cq kH hF;go_wp2;go_ret;exact⟨_,rfl,⟨fs,HE.o,HO.o,HP.o⟩,Q2.o⟩
end
def tJ.dR(m:tJ):MvL:=⟨m.kind,m.tab,m.o.dR m.hs⟩
def rX:bS:= #[.int .i64 0,.int .i64 0,.int .i64 0,.int .i64 0,.bool false,.string ⟨#[]⟩,.int .i64 0,.bool false,.string ⟨#[]⟩,.int .i64 0,.string ⟨#[]⟩,.string ⟨#[]⟩,.string ⟨#[]⟩,.slice none 0 0,.bool false,.string ⟨#[]⟩,.bool false,.string ⟨#[]⟩,.string ⟨#[]⟩,.string ⟨#[]⟩,.string ⟨#[]⟩,.int .i64 0,.bool false,.int .i64 0]
theorem Aq:(prog.info? 66).map (·.zero)=some (some (.agg rX)):=af
theorem sW:(prog.info? 66).map (·.size)=some 24:=af
theorem O0(t:iy)(m:MvL):(Ab t m).gz.length<=t.gz.length+1:=by
 unfold Ab;split
 ·rw[Bu];omega
 ·split
  ·rw[SU];omega
  ·split
   ·exact yE _ _
   ·omega
theorem fY.move(h:fY k t)(m:MvL)(ho:m.op.user.size<=5000/\m.op.pass.size<=5000/\m.op.path.size<=5000):fY (k+2) (Ab t m):=by
 unfold Ab;split
 ·exact(h.mY m.tab m.op ho).mono ab
 ·split
  ·exact(h.cancel m.tab).mono ab
  ·split
   ·exact h.step m.tab
   ·exact h.mono ab
theorem Mv(l:List MvL)(m:MvL):yz (l++[m])=Ab (yz l) m:=by unfold yz;simp
theorem Qz(l:List MvL)(ho:∀m∈l,m.op.user.size<=5000/\m.op.pass.size<=5000/\m.op.path.size<=5000):fY (2*l.length) (yz l)/\(yz l).gz.length<=l.length:=by
 have key:∀k,k<=l.length->fY (2*(k:Int)) (yz (l.take k))/\(yz (l.take k)).gz.length<=k:=by
  intro k
  induction k with
  |zero=>exact fun _=>⟨fY.new,ay _⟩
  |succ k ih =>
   intro hk;obtain⟨i1,i2⟩:=ih ab;have hx:=List.getElem?_eq_getElem (show k<l.length from ab);rw[cC,hx,Option.toList_some,Mv];refine⟨?_,?_⟩
   ·have:=i1.move (l[k]) (ho _ (bN _));rw[show(2*((k+1:Nat):Int))=2*(k:Int)+2 from ab];exact this
   ·have:=O0 (yz (l.take k)) l[k];omega
 have:=key l.length (ay _);rw[List.take_length]at this;exact this
theorem EE(h:gI w o hs):(o.dR hs).user.size<=5000/\(o.dR hs).pass.size<=5000/\(o.dR hs).path.size<=5000:=⟨h.user,h.pass,by have:=h.path;show o.aJ.path.size<=5000;omega⟩
theorem Hc(h:gI w o hs)(hT:w.heap.size<=T):hs≠ []->∀b,o.aJ.ey.ownBlock=some b->b≠T:=by
 intro hne b hb;rcases h.ey.2 with ⟨_,_,_,e,_⟩|⟨bk,o',c,e,_,_,hl,_⟩
 ·exact absurd (by simpa using e) hne
 ·rw[e]at hb;have hb':some bk=some b:=hb;cases hb';omega
section
variable {xw : Option (Nat × dI)} {a U U' : World} {T : Nat} {t : iy}
def afH(a:World)(T:Nat)(ms:List tJ)(i:Value)(wr:World):Prop:=∃k:Nat,k<=ms.length/\i=.int .i64 k/\cO none a wr T (yz ((ms.take k).map tJ.dR))
theorem aa9(hf:Fr aS a U){ms:List tJ}(hm:wK a v ms)(hl:ms.length<1000)(ht:kO a) :
  aB 9 #[v] U fun e w'=>∃T,e=.returned (.pointer (some ⟨T,0,none⟩))/\cO none a w' T (yz (ms.map tJ.dR)):=by
 obtain⟨av,cv,hv⟩:=hm.rows.form;rw[ai]at hv;subst hv;have HM:=O hm;have wJ:=O (fun k (hk:k<=ms.length)=>Qz ((ms.take k).map tJ.dR) (fun m Hp=>by
  obtain⟨x,hx,rfl⟩:=b_.1 Hp;exact EE (hm.fit x (eC hx))))
 have HN:=O (Mm hf);clear hm hf;go_enter func9,ntmps9;go_wp2_with fail
 refine HN.o.mono ?_;rintro e u⟨T,rfl,h0, -⟩;clear HN;go_wp2;go_loopw[9] (afH a T ms) (fun i _=>ms.length-(intOf i).toNat)
 case atStart=>exact⟨0,aQ _,rfl,h0⟩
 case round =>
  obtain⟨k,hk,rfl,hT⟩:=hrel;clear h0;by_cases fo:k<ms.length
  ·have dT:=(HM.o.dm hT.fr).rows;rcases dT.2 with ⟨_,_,_,e,_⟩|⟨bk,o0,c,hf,g1,g2,g3,g4⟩
   ·have:ms=[]:=by simpa using e
    subst this;exact absurd fo (ct _)
   ·rw[ai]at hf;cases hf;have hx:=List.getElem?_eq_getElem fo;generalize ms[k]=x at hx;have iD:x∈ms:=cq hx;have hr:wr.rangeAt bk (o0+k*24) x.cells:=fun j v hj=>g4 k x.cells (by rw[List.getElem?_map,hx];rfl) j v hj;have td:=HM.o.fit x iD;obtain⟨kd,tb,o,hs⟩:=x;have HR:=O hr;obtain⟨y,hy⟩:∃y,y=tJ.cells ⟨kd,tb,o,hs⟩:=⟨_,rfl⟩;obtain⟨ah,ch,hh⟩:=td.gZ;have MX:=O (show y.length=24 by rw[hy];rfl)
    have Yj:=O (show∀u∈y,u.oneCell'=true by
     rw[hy];intro u hu;rcases bB.1 hu with rfl|hu
     ·rfl
     ·rcases bB.1 hu with rfl|hu
      ·rfl
      ·exact Qr o (by rw[hh];rfl) u hu)
    rw[<-hy]at HR;have MT:=O (show yz ((ms.take (k+1)).map tJ.dR)=Ab (yz ((ms.take k).map tJ.dR)) ⟨kd,tb,o.dR hs⟩by rw[cC,hx,Option.toList_some,bG];exact Mv _ _);obtain⟨N,hN⟩:∃N,N=wr.heap.size:=⟨_,rfl⟩;have hUN:a.heap.size<=N:=by have:=hT.fr.size;omega
    have EU:=O (show(wr.alloc (.cells rX 66)).heap[N]?=some (.cells rX 66 (0,0))from by rw[hN];exact aC _ _);have HN:=O hN;have HT:=O hT;have aqD:=O (fun V (hV:Fr aS a V)=>td.dm hV);have HOLD:=O (Hc td hT.low);have HNL:=O td.aJ.2.1;have HY:=O hy;clear dT hr hx hy td hT hN g4 hh;by_cases mf:kd=1
    ·as_aux_lemma =>
      subst mf;go_wp2_with (first
       |((with_reducible refine jn ⟨some 12,_,_,_,_,_⟩ ?_)
         refine a_ rfl 66 (.tmp 11) rfl bk (o0+k*24) rfl y _ HR.o underlying66 rfl (by rw[MX.o];exact sW) ?_
         refine kT rfl 66 rfl (some 5) rfl rX Aq N HN.o.symm ?_
         refine aF rfl 66 (.tmp 5) (.tmp 12) rfl N y.toArray rfl rfl 66 rX EU.o (by rw[aZ,MX.o];exact sW) (by have e:y.toArray.size=y.length:=rfl;rw[e,MX.o];rfl) (bX Yj.o) ?_
         have Yr:Fr aS wr ((wr.alloc (.cells rX 66)).setRow N y.toArray):=gV ((ae aS wr).alloc _) (by rw[HN.o];exact ay _) _
         have kW:((wr.alloc (.cells rX 66)).setRow N y.toArray).heap[N]?=some (.cells y.toArray 66 (0,0)):=jR EU.o
         generalize (wr.alloc (.cells rX 66)).setRow N y.toArray=W1 at *
         have z0:W1.cell? ⟨N,0,none⟩=some (.int .i64 1):=by
           simp only[World.cell?,kW,HY.o]
           rfl
         have z1:W1.cell? ⟨N,1,none⟩=some (.int .i64 tb):=by
           simp only[World.cell?,kW,HY.o]
           rfl
         have ot:W1.rangeAt N 2 o.cells:=by
           have q:=Cb kW
           rw[HY.o]at q
           exact kS (p:=[_,_]) (q:=o.cells) (r:=[]) (by rw[dV];exact q)
         have SR:=HT.o.dm Yr)
       |((with_reducible refine di 21 ?_);refine a_ rfl 41 (.tmp 20) rfl N 2 rfl o.cells _ ot underlying41 rfl af ?_)
       |fail)
      have HB:=O (Br SR tb o hs (k:=2*(ms.length:Int)) ab (by
       have q:=(wJ.o k hk).1;rw[ai,aM]at q;exact q.mono ab) (aqD.o _ SR.fr) HOLD.o HNL.o)
      refine HB.o.mono ?_;rintro e w5⟨rfl,p1, -⟩;have HP:=O p1;clear p1;go_wp2;go_roundw
      case rel=>exact⟨k+1,ab,bg,by rw[MT.o];exact HP.o⟩
      case measure=>simp[intOf];omega
    ·by_cases rZ:kd=2
     ·as_aux_lemma =>
       subst rZ;go_wp2_with (first
        |((with_reducible refine jn ⟨some 12,_,_,_,_,_⟩ ?_)
          refine a_ rfl 66 (.tmp 11) rfl bk (o0+k*24) rfl y _ HR.o underlying66 rfl (by rw[MX.o];exact sW) ?_
          refine kT rfl 66 rfl (some 5) rfl rX Aq N HN.o.symm ?_
          refine aF rfl 66 (.tmp 5) (.tmp 12) rfl N y.toArray rfl rfl 66 rX EU.o (by rw[aZ,MX.o];exact sW) (by have e:y.toArray.size=y.length:=rfl;rw[e,MX.o];rfl) (bX Yj.o) ?_
          have Yr:Fr aS wr ((wr.alloc (.cells rX 66)).setRow N y.toArray):=gV ((ae aS wr).alloc _) (by rw[HN.o];exact ay _) _
          have kW:((wr.alloc (.cells rX 66)).setRow N y.toArray).heap[N]?=some (.cells y.toArray 66 (0,0)):=jR EU.o
          generalize (wr.alloc (.cells rX 66)).setRow N y.toArray=W1 at *
          have z0:W1.cell? ⟨N,0,none⟩=some (.int .i64 2):=by
            simp only[World.cell?,kW,HY.o]
            rfl
          have z1:W1.cell? ⟨N,1,none⟩=some (.int .i64 tb):=by
            simp only[World.cell?,kW,HY.o]
            rfl
          have ot:W1.rangeAt N 2 o.cells:=by
            have q:=Cb kW
            rw[HY.o]at q
            exact kS (p:=[_,_]) (q:=o.cells) (r:=[]) (by rw[dV];exact q)
          have SR:=HT.o.dm Yr)
        |fail)
       have HB:=O (OJ SR tb (k:=2*(ms.length:Int)) ab (by
        have q:=(wJ.o k hk).1;rw[ai,aM]at q;exact q.mono ab))
       refine HB.o.mono ?_;rintro e w5⟨rfl,p1, -⟩;have HP:=O p1;clear p1;go_wp2;go_roundw
       case rel=>exact⟨k+1,ab,bg,by rw[MT.o];exact HP.o⟩
       case measure=>simp[intOf];omega
     ·by_cases QV:kd=0
      ·as_aux_lemma =>
        subst QV;go_wp2_with (first
         |((with_reducible refine jn ⟨some 12,_,_,_,_,_⟩ ?_)
           refine a_ rfl 66 (.tmp 11) rfl bk (o0+k*24) rfl y _ HR.o underlying66 rfl (by rw[MX.o];exact sW) ?_
           refine kT rfl 66 rfl (some 5) rfl rX Aq N HN.o.symm ?_
           refine aF rfl 66 (.tmp 5) (.tmp 12) rfl N y.toArray rfl rfl 66 rX EU.o (by rw[aZ,MX.o];exact sW) (by have e:y.toArray.size=y.length:=rfl;rw[e,MX.o];rfl) (bX Yj.o) ?_
           have Yr:Fr aS wr ((wr.alloc (.cells rX 66)).setRow N y.toArray):=gV ((ae aS wr).alloc _) (by rw[HN.o];exact ay _) _
           have kW:((wr.alloc (.cells rX 66)).setRow N y.toArray).heap[N]?=some (.cells y.toArray 66 (0,0)):=jR EU.o
           generalize (wr.alloc (.cells rX 66)).setRow N y.toArray=W1 at *
           have z0:W1.cell? ⟨N,0,none⟩=some (.int .i64 0):=by
             simp only[World.cell?,kW,HY.o]
             rfl
           have z1:W1.cell? ⟨N,1,none⟩=some (.int .i64 tb):=by
             simp only[World.cell?,kW,HY.o]
             rfl
           have ot:W1.rangeAt N 2 o.cells:=by
             have q:=Cb kW
             rw[HY.o]at q
             exact kS (p:=[_,_]) (q:=o.cells) (r:=[]) (by rw[dV];exact q)
           have SR:=HT.o.dm Yr)
         |fail)
        have HB:=O (Al SR tb (k:=2*(ms.length:Int)) ab (by
         have q:=(wJ.o k hk).1;rw[ai,aM]at q;exact q.mono ab) (by
         have q:=(wJ.o k hk).2;rw[ai,aM]at q;omega) ht)
        refine HB.o.mono ?_;rintro e w5⟨rfl,p1, -⟩;have HP:=O p1;clear p1;go_wp2;go_roundw
        case rel=>exact⟨k+1,ab,bg,by rw[MT.o];exact HP.o⟩
        case measure=>simp[intOf];omega
      ·as_aux_lemma =>
        have WH:=O (show Ab (yz ((ms.take k).map tJ.dR)) ⟨kd,tb,o.dR hs⟩=yz ((ms.take k).map tJ.dR)by unfold Ab;rw[aq mf,aq rZ,aq QV]);go_wp2_with (first
         |((with_reducible refine jn ⟨some 12,_,_,_,_,_⟩ ?_)
           refine a_ rfl 66 (.tmp 11) rfl bk (o0+k*24) rfl y _ HR.o underlying66 rfl (by rw[MX.o];exact sW) ?_
           refine kT rfl 66 rfl (some 5) rfl rX Aq N HN.o.symm ?_
           refine aF rfl 66 (.tmp 5) (.tmp 12) rfl N y.toArray rfl rfl 66 rX EU.o (by rw[aZ,MX.o];exact sW) (by have e:y.toArray.size=y.length:=rfl;rw[e,MX.o];rfl) (bX Yj.o) ?_
           have Yr:Fr aS wr ((wr.alloc (.cells rX 66)).setRow N y.toArray):=gV ((ae aS wr).alloc _) (by rw[HN.o];exact ay _) _
           have kW:((wr.alloc (.cells rX 66)).setRow N y.toArray).heap[N]?=some (.cells y.toArray 66 (0,0)):=jR EU.o
           generalize (wr.alloc (.cells rX 66)).setRow N y.toArray=W1 at *
           have z0:W1.cell? ⟨N,0,none⟩=some (.int .i64 kd):=by
             simp only[World.cell?,kW,HY.o]
             rfl
           have z1:W1.cell? ⟨N,1,none⟩=some (.int .i64 tb):=by
             simp only[World.cell?,kW,HY.o]
             rfl
           have ot:W1.rangeAt N 2 o.cells:=by
             have q:=Cb kW
             rw[HY.o]at q
             exact kS (p:=[_,_]) (q:=o.cells) (r:=[]) (by rw[dV];exact q)
           have SR:=HT.o.dm Yr)
         |fail)
        have HP:=O SR;go_roundw
        case rel=>exact⟨k+1,ab,bg,by rw[MT.o,WH.o];exact HP.o⟩
        case measure=>simp[intOf];omega
  ·have HE:=O (show(ms.take k).map tJ.dR=ms.map tJ.dR by rw[aD ab]);have HT:=O hT;clear hT;go_wp2;go_ret;rw[HE.o]at HT;exact⟨T,rfl,HT.o⟩
end
def O2:iY:=⟨10,0,t_,t_,⟨#[47]⟩,⟨#[]⟩,⟨#[71,69,84]⟩,[],false,⟨#[]⟩,false,⟨#[]⟩,⟨#[]⟩,⟨#[]⟩,⟨#[]⟩,0,false,7⟩
def aba:jQ:=⟨10,⟨0,t_,t_,⟨#[47]⟩,⟨#[]⟩,⟨#[71,69,84]⟩,.slice none 0 0,false,⟨#[]⟩⟩,false,⟨#[]⟩,⟨#[]⟩,⟨#[]⟩,⟨#[]⟩,0,false,7⟩
def akP:bS:= #[.int .i64 10,.int .i64 0,.bool true,.string ⟨#[97,46,116,101,115,116]⟩,.int .i64 443,.bool true,.string ⟨#[97,46,116,101,115,116]⟩,.int .i64 443,.string ⟨#[47]⟩,.string ⟨#[]⟩,.string ⟨#[71,69,84]⟩,.slice none 0 0,.bool false,.string ⟨#[]⟩,.bool false,.string ⟨#[]⟩,.string ⟨#[]⟩,.string ⟨#[]⟩,.string ⟨#[]⟩,.int .i64 0,.bool false,.int .i64 7]
theorem afM:aba.dR []=O2:=rfl
theorem afN:aba.cells.toArray=akP:=rfl
theorem abb(w:World):gI w aba [] :=
 ⟨dY.nil _ _,⟨ag,ag,fun _ h=>by cases h⟩,ag,ag,ag,ag,ag,ag,ag,ag,ag,ag,ag,ag,ag,ag,ag,ag⟩
def sj:Nat->iy
 |0=>(wC xH 2 O2).1
 |k+1=>(jH (sj k) 2).1
theorem abc:(wC xH 2 O2).2=0:=af
theorem aqI:(jH (sj 0) 2).2=(rep 0,false,0):=af
theorem aqJ:(jH (sj 1) 2).2=(rep 0,false,0):=af
theorem aqK:(jH (sj 2) 2).2=(⟨1,⟨#[]⟩,0⟩,true,0):=af
theorem SW:(sj 3).gz.length=1:=af
theorem abd:(sj 3).w.now=7:=af
theorem Ar(k:Nat):fY (1+2*(k:Int)) (sj k)/\(sj k).gz.length<=k:=by
 induction k with
 |zero=>exact⟨(fY.new.mY 2 O2 ⟨ag,ag,ag⟩).mono ab,by show(wC xH 2 O2).1.gz.length<=0;rw[Bu];exact ay _⟩
 |succ k ih =>
  refine⟨(ih.1.step 2).mono ab,?_⟩;have:=yE (sj k) 2;have:=ih.2;show(jH (sj k) 2).1.gz.length<=k+1;omega
def afO(a:World)(T:Nat)(i:Value)(wr:World):Prop:=∃k:Nat,k<=2/\i=.int .i64 k/\cO none a wr T (sj k)
theorem afP(k:Nat)(i:Nat)(h:((sj k).tab i).does=2)(hk:k<=2):((sj k).tab i).op=O2:=by
 rcases(show k=0\/k=1\/k=2 from ab)with rfl|rfl|rfl
 ·by_cases e:i=2
  ·subst e;exact absurd h du
  ·exfalso;have e':¬i=(2:Int).toNat:=e;have:((sj 0).tab i).does=0:=by
    show((if i=(2:Int).toNat then _ else fX:wB)).does=0;rw[aq e'];rfl
   omega
 ·by_cases e:i=2
  ·subst e;rfl
  ·exfalso;have e':¬i=(2:Int).toNat:=e;have:((sj 1).tab i).does=0:=by
    show((if i=(2:Int).toNat then _ else(if i=(2:Int).toNat then _ else fX):wB)).does=0;rw[aq e',aq e'];rfl
   omega
 ·by_cases e:i=2
  ·subst e;exact absurd h du
  ·exfalso;have e':¬i=(2:Int).toNat:=e;have:((sj 2).tab i).does=0:=by
    show((if i=(2:Int).toNat then _ else(if i=(2:Int).toNat then _ else(if i=(2:Int).toNat then _ else fX)):wB)).does=0;rw[aq e',aq e',aq e'];rfl
   omega
theorem SX:O2.right=true:=af
theorem EG{k:Nat}(hk:k<=2)(ht:kO a)(h:cO none a w T (sj k)):aB 21 #[.pointer (some ⟨T,0,none⟩),.int .i64 2] w (nE none a w T (jH (sj k) 2)) :=
 Mn h 2 (k:=1+2*(k:Int)) ab (Ar k).1 (by have:=(Ar k).2;omega) fun i _ hd V B pv o hs ho hw hf td=>by
  have e:=afP k i hd hk;have:=Qp a.heap.size V B pv _ o hs hw td ((Ar k).1.seen i (Or.inl hd)) a ht (ay _) hf (by rw[ho,e];exact SX) (by
   have:=ar iY.what (ho.trans e);exact this)
  rw[ho]at this;exact this
theorem Mx(a U:World)(hf:Fr aS a U)(ht:kO a):aB 7 #[] U fun e w'=>e=.returned (.bool true)/\Fr aS a w':=by
 have HT:=O ht;have HN:=O (Mm hf);clear ht hf;go_enter func7,ntmps7;go_wp2_with fail
 refine HN.o.mono ?_;rintro e u⟨T,rfl,h0, -⟩;have H0:=O h0;clear HN h0;go_wp2_with fail
 refine(zT u).mono ?_;rintro e u1⟨rfl,dr⟩;unfold gA.cells t_;go_wp2_with fail
 refine(zT u1).mono ?_;rintro e u2⟨rfl,dB⟩;unfold gA.cells t_;have hb:=Br (H0.o.dm (dr.trans dB)) 2 aba [] (k:=0) ag fY.new (abb u2) (fun h=>absurd rfl h) ag;rw[afM,afN,abc]at hb;unfold akP xi at hb;rw[az rfl]at hb;have HB:=O hb;clear hb H0 dr dB;go_wp2_with fail
 refine HB.o.mono ?_;rintro e u3⟨rfl,h3, -⟩;have H3:=O (show cO none a u3 T (sj 0)from h3);clear h3 HB;go_wp2;go_loopw[21] (afO a T) (fun i _=>2-(intOf i).toNat)
 case atStart=>exact⟨0,ab,rfl,H3.o⟩
 case round =>
  obtain⟨k,hk,rfl,hT⟩:=hrel;clear H3;rcases(show k=0\/k=1\/k=2 from ab)with rfl|rfl|rfl
  ·have hs:=EG ag HT.o hT;unfold nE at hs;rw[aqI]at hs;have HS:=O hs;clear hs hT;go_wp2_with fail
   refine HS.o.mono ?_;rintro e u4⟨rfl,h4, -⟩;have H4:=O (show cO none a u4 T (sj 1)from h4);clear h4 HS;unfold rep xi;go_wp2;go_roundw
   case rel=>exact⟨1,ab,bg,H4.o.dm ((ae aS u4).alloc _)⟩
   case measure=>simp[intOf]
  ·have hs:=EG ag HT.o hT;unfold nE at hs;rw[aqJ]at hs;have HS:=O hs;clear hs hT;go_wp2_with fail
   refine HS.o.mono ?_;rintro e u4⟨rfl,h4, -⟩;have H4:=O (show cO none a u4 T (sj 2)from h4);clear h4 HS;unfold rep xi;go_wp2;go_roundw
   case rel=>exact⟨2,ab,bg,H4.o.dm ((ae aS u4).alloc _)⟩
   case measure=>simp[intOf]
  ·have hs:=EG ag HT.o hT;unfold nE at hs;rw[aqK]at hs;have HS:=O hs;clear hs hT;go_wp2_with fail
   refine HS.o.mono ?_;rintro e u4⟨rfl,h4, -⟩;have H4:=O (show cO none a u4 T (sj 3)from h4);clear h4 HS;unfold xi;go_wp2_with fail
   have h5:=H4.o.dm ((ae aS u4).alloc (.cells #[.int .i64 1,.string ⟨#[]⟩,.int .i64 0] 30));have H5:=O h5;have mj:=O (SV h5 (by have:=(Ar 3).2;omega));clear h5 H4;refine mj.o.mono ?_;rintro e u5⟨sv,rfl,hev,lQ⟩;obtain⟨es,e1,e2, -⟩:=hev;obtain⟨asv,csv,Xa⟩:=e2.form;have hel:es.length=1:=by
    have:=ar List.length e1;rw[ai,SW]at this;exact this
   rw[ai,hel]at Xa;subst Xa;have h6:=H5.o.dm lQ;have HW:=O (Bq h6 (Ar 3).1.inv);have yH:=O h6.fr;clear e1 e2 hel lQ h6 H5 mj;go_wp2_with fail
   refine HW.o.mono ?_;rintro e u6⟨C,qv,rfl,hc,nF, -⟩;have HN:=O (EF _ _ _ _ _ hc);rw[abd]at HN;have Jt:=O (yH.o.trans nF);clear hc nF HW;go_wp2_with fail
   refine HN.o.mono ?_;rintro e u7⟨rfl,rfl⟩;go_wp2;go_ret;exact⟨rfl,Jt.o⟩
theorem yF.dm{w':World}{ms:List tJ}(h:yF w v ms)(hf:Fr aS w w'):yF w' v ms:=⟨bh h.1 hf,h.2.1,fun m hm=>(h.2.2 m hm).dm hf⟩
def mvT(ms:List tJ):iy:=yz (ms.map tJ.dR)
theorem afU{ms:List tJ}(h:wK w v ms)(hl:ms.length<=150):fY 300 (mvT ms)/\(mvT ms).gz.length<=150:=by
 have:=Qz (ms.map tJ.dR) (fun m hm=>by
  obtain⟨x,hx,rfl⟩:=b_.1 hm;exact EE (h.fit x hx))
 rw[ai]at this;exact⟨this.1.mono ab,by have:=this.2;unfold mvT;omega⟩
section
variable {xw : Option (Nat × dI)} {a U U' : World} {T : Nat} {t : iy}
theorem cO.aqX{qv:Nat->cV}(h:cO none a U T t)(hf:Fr aS U U')(hc:cD a.heap.size U' C qv y)(hn:∀j,lN C qv j->U.heap.size<=j):cO (some (C,y)) a U' T t:=by
 obtain⟨B,g,sv,sb,h1,h2,h3,h4⟩:=h.ex;refine⟨⟨B,g,sv,sb,h1.fr hf id,(h2.add hf (i:=7) hc hn).sub fun i p hp=>?_,h3.kept (ju hf),fun n Rv=>⟨fun hd=>((h4 n Rv).1 hd).kept (ju hf),(h4 n Rv).2⟩⟩,h.low,h.fr.trans hf⟩;unfold oA at hp ⊢;by_cases e7:i=7
 ·subst e7;rw[az rfl];simpa using hp
 ·rw[aq e7];by_cases e6:i=6
  ·rw[az e6]at hp ⊢;exact hp
  ·rw[aq e6,aq e7]at hp ⊢;exact hp
theorem cO.extra{C:Nat}{y y':dI}{f:FuncId}{args:bS}{R:Ending->Prop}(h:cO (some (C,y)) a U T t)
  (hc:∀pv,cD a.heap.size U C pv y->aB f args U fun e w'=>R e/\dn a.heap.size U C pv y' w') :
  aB f args U fun e w'=>R e/\cO (some (C,y')) a w' T t/\Kept U w':=by
 obtain⟨B,g,sv,sb,h1,h2,h3,h4⟩:=h.ex;refine(xj.act h2 h.fr (ay _) (i:=7) (B:=C) (x:=y) rfl hc).mono ?_;rintro e w'⟨r1,r2,r3,r4⟩;refine⟨r1,⟨⟨B,g,sv,sb,r4.eL h1,r2.sub fun i p hp=>?_,h3.kept r4,fun n hn=>⟨fun hd=>((h4 n hn).1 hd).kept r4,(h4 n hn).2⟩⟩,h.low,r3⟩,r4⟩;unfold oA at hp ⊢;by_cases e7:i=7
 ·subst e7;rw[az rfl];simpa using hp
 ·rw[aq e7];by_cases e6:i=6
  ·rw[az e6]at hp ⊢;exact hp
  ·rw[aq e6,aq e7]at hp ⊢;exact hp
theorem cO.beside(h:cO (some (C,y)) a U T t):∃pv,cD a.heap.size U C pv y:=by
 obtain⟨B,g,sv,sb,h1,h2,h3,h4⟩:=h.ex;exact h2.at (i:=7) (B:=C) (x:=y) rfl
theorem ME(h:cO (some (C,y)) a U T t){D:Nat}{qv:Nat->cV}(hD:cD a.heap.size U D qv t.w)(hy:y=t.w)(CE:xE t.w) :
  aB 15 #[.pointer (some ⟨C,0,none⟩),.pointer (some ⟨D,0,none⟩)] U fun e w'=>e=.returned (.bool true)/\Fr aS U w':=by
 obtain⟨pv,hw⟩:=h.beside;rw[hy]at hw;exact FB hw hD CE
end
theorem MF(a c:Int)(s:aj)(w:World):(binOp .neq 30 (.agg #[.int .i64 a,.string s,.int .i64 c]) (.agg #[.int .i64 a,.string s,.int .i64 c])).run prog w=.ok (.bool false) w:=by
 go_simp
def ri(t:iy)(i:Nat)(o:iY):Nat->iy
 |0=>(wC t i o).1
 |k+1=>(jH (ri t i o k) i).1
theorem abh{i:Nat}(o:iY)(hi:i<6)(h0:(t.tab i).does=0) :
  (wC t i o).2=0/\((jH (ri t i o 0) i).2.2=(false,0))/\((jH (ri t i o 1) i).2.2=(false,0))/\((jH (ri t i o 2) i).2=((ku t.w o).2,true,0))/\(ri t i o 3).w=(ku t.w o).1/\((ri t i o 3).tab i).does=0:=by
 have hb:wC t i o=({(t.put i {fX with does:=1,op:=o,mY:=t.steps+1})with steps:=t.steps+1},0):=by
  unfold wC;rw[Jo hi,az rfl];exact az h0
 have hn:∀u:iy,(u.tab i).does≠0->jH u i=((stepT u i).1,(stepT u i).2.1,(stepT u i).2.2,0):=fun u hu=>by
  unfold jH;rw[Jo hi,az rfl];exact aq hu
 obtain⟨u,hu⟩:∃u,u=(wC t i o).1:=⟨_,rfl⟩;have e0:u.tab i={fX with does:=1,op:=o,mY:=t.steps+1}:=by rw[hu,hb];exact ma t i _
 have ew:u.w=t.w:=by rw[hu,hb];rfl
 have d0:(u.tab i).does=1:=by rw[e0]
 obtain⟨q1,q2,q3,q4,q5⟩:=SQ (t:=u) (n:=i) rfl d0;have d1:((stepT u i).1.tab i).does=2:=by
  rw[step1 d0];show((iy.put _ i _).tab i).does=2;rw[ma]
 have d2:((stepT (stepT u i).1 i).1.tab i).does=3:=by
  rw[step2 d1];show((iy.put _ i _).tab i).does=3;rw[ma]
 have a0:ri t i o 0=u:=hu.symm;have a1:ri t i o 1=(stepT u i).1:=by show(jH (ri t i o 0) i).1=_;rw[a0,hn u ab]
 have a2:ri t i o 2=(stepT (stepT u i).1 i).1:=by show(jH (ri t i o 1) i).1=_;rw[a1,hn _ ab]
 have a3:ri t i o 3=(stepT (stepT (stepT u i).1 i).1 i).1:=by show(jH (ri t i o 2) i).1=_;rw[a2,hn _ ab]
 have ho:(u.tab i).op=o:=by rw[e0]
 rw[ew,ho]at q3 q4;refine⟨by rw[hb],?_,?_,?_,?_,?_⟩
 ·rw[a0,hn u ab];show((stepT u i).2.2,0)=_;rw[q1]
 ·rw[a1,hn _ ab];show((stepT (stepT u i).1 i).2.2,0)=_;rw[q2]
 ·rw[a2,hn _ ab];show((stepT (stepT (stepT u i).1 i).1 i).2.1,(stepT (stepT (stepT u i).1 i).1 i).2.2,0)=_;rw[q3]
 ·rw[a3];exact q4
 ·rw[a3];exact q5
theorem Aw{t:iy}(h:fY 300 t)(hl:t.gz.length<=150)(i:Nat)(o:iY)(ho:o.user.size<=5000/\o.pass.size<=5000/\o.path.size<=5000):∀k:Nat,fY (301+2*(k:Int)) (ri t i o k)/\(ri t i o k).gz.length<=150+k
 |0=>⟨(h.mY i o ho).mono ab,by show(wC t i o).1.gz.length<=150;rw[Bu];exact hl⟩
 |k+1=>by
  obtain⟨h1,h2⟩:=Aw h hl i o ho k;refine⟨(h1.step i).mono ab,?_⟩;have:=yE (ri t i o k) i;show(jH (ri t i o k) i).1.gz.length<=150+(k+1);omega
def af3(y5:World)(T C N:Nat)(y:dI)(r:kI)(t:iy)(i:Nat)(o:iY)(iv:Value)(wr:World):Prop :=
 ∃k:Nat,k<=3/\iv=.int .i64 k/\cO (some (C,y)) y5 wr T (ri t i o k)/\wr.heap[N]?=some (.cells #[.int .i64 r.what,.string r.head,.int .i64 r.cert] 30 (0,0))
theorem EM(v:Value)(ms:List tJ)(n:Int)(o:jQ)(hs:List ig)(w:World)(st0:yF w v ms)(st1:sV w o hs)(pw:xz w)(md:uz w)(sh:uA w)(db:oP w 9 .u8 Tr) :
  aB 6 #[v,.int .i64 n,.agg o.cells.toArray] w fun e w'=>e=.returned (.bool true)/\Below w.heap.size w w':=by
 have ht:kO w:=⟨⟨db,md,sh⟩,pw⟩;obtain⟨ah,ch,gH⟩:=dK st1.aJ.ey;rw[ai]at gH;obtain⟨w0,V8⟩:∃w0,w0=w.alloc (.cells o.cells.toArray 41):=⟨_,rfl⟩;have pd:Fr aS w w0:=by rw[V8];exact(ae aS w).alloc _
 have k0:w0.heap[w.heap.size]?=some (.cells o.cells.toArray 41 (0,0)):=by rw[V8];exact aC _ _
 have HT:=O ht;have lD:=O gH;have Ca:=O pd;have HA1:=O st1;have mj:=O st0
 have HKO:=O (show∀U,Fr aS w0 U->U.heap[w.heap.size]?=some (.cells #[.int .i64 o.what,.int .i64 o.aJ.part,.bool o.aJ.cX.aE,.string o.aJ.cX.host,.int .i64 o.aJ.cX.port,.bool o.aJ.o.aE,.string o.aJ.o.host,.int .i64 o.aJ.o.port,.string o.aJ.path,.string o.aJ.query,.string o.aJ.method,.slice ah hs.length ch,.bool o.aJ.fN,.string o.aJ.body,.bool o.proxy,.string o.text,.string o.user,.string o.pass,.string o.bL,.int .i64 o.cert,.bool o.all,.int .i64 o.n] 41 (0,0))from fun U hU=>by
  have q:=hU.keep k0 id
  rwa [d_ gH]at q)
 have Tg:=O (show∀U n t,Fr aS w U->U.heap[n]?=some (.cells #[.int .i64 o.what,.int .i64 o.aJ.part,.bool o.aJ.cX.aE,.string o.aJ.cX.host,.int .i64 o.aJ.cX.port,.bool o.aJ.o.aE,.string o.aJ.o.host,.int .i64 o.aJ.o.port,.string o.aJ.path,.string o.aJ.query,.string o.aJ.method,.slice ah hs.length ch,.bool o.aJ.fN,.string o.aJ.body,.bool o.proxy,.string o.text,.string o.user,.string o.pass,.string o.bL,.int .i64 o.cert,.bool o.all,.int .i64 o.n] t (0,0))->aB 17 #[.slice (some ⟨n,0,none⟩) 1 1] U fun e w'=>e=.returned (.bool (!qw (o,hs)))/\Fr aS U w' from fun U n t hU hb=>by
  have h:=Mz _ [(o,hs)] U (ED.one (st1.fr hU) gH (by rw[d_ gH];exact hb));rw[Hd]at h;exact h)
 have xN:=O (Mx w0 w0 (ae _ _) (ht.fr pd));rw[d_ gH]at V8 ⊢;have HW0:=O V8;clear V8 gH pd k0 st0 st1 ht pw md sh db;go_enter func6,ntmps6;go_wp2_with fail
 rw[<-HW0.o];refine xN.o.mono ?_;rintro e y1⟨rfl,h1⟩;have H1:=O h1;have HLV:=O (Td y1 (HT.o.fr (Ca.o.trans h1)));clear h1 xN;go_wp2_with fail
 refine HLV.o.mono ?_;rintro e y2⟨rfl,h2⟩;have H2:=O (H1.o.trans h2);have HM:=O (S' v ms y2 (mj.o.dm (Ca.o.trans H2.o)));clear h2 H1 HLV;go_wp2_with fail
 refine HM.o.mono ?_;rintro e y3⟨rfl,h3⟩;have H3:=O (H2.o.trans h3);have JD:=O (HKO.o _ H3.o);clear h3 H2 HM;cases hm:wM ms
 ·clear hm;go_wp2;go_ret;exact⟨rfl,(Ca.o.trans H3.o).pz⟩
 have WH:=O hm;clear hm
 go_wp2_with (first|((with_reducible refine di 24 ?_);refine Bw bC 41 (.tmp 5) rfl w.heap.size rfl _ #[.int .i64 o.what,.int .i64 o.aJ.part,.bool o.aJ.cX.aE,.string o.aJ.cX.host,.int .i64 o.aJ.cX.port,.bool o.aJ.o.aE,.string o.aJ.o.host,.int .i64 o.aJ.o.port,.string o.aJ.path,.string o.aJ.query,.string o.aJ.method,.slice ah hs.length ch,.bool o.aJ.fN,.string o.aJ.body,.bool o.proxy,.string o.text,.string o.user,.string o.pass,.string o.bL,.int .i64 o.cert,.bool o.all,.int .i64 o.n] (0,0) _ JD.o underlying41 rfl af ?_)|fail)
 obtain⟨y4,hy4⟩:∃y4,y4=y3.alloc (.cells #[.int .i64 o.what,.int .i64 o.aJ.part,.bool o.aJ.cX.aE,.string o.aJ.cX.host,.int .i64 o.aJ.cX.port,.bool o.aJ.o.aE,.string o.aJ.o.host,.int .i64 o.aJ.o.port,.string o.aJ.path,.string o.aJ.query,.string o.aJ.method,.slice ah hs.length ch,.bool o.aJ.fN,.string o.aJ.body,.bool o.proxy,.string o.text,.string o.user,.string o.pass,.string o.bL,.int .i64 o.cert,.bool o.all,.int .i64 o.n] 41):=⟨_,rfl⟩
 have kQ:Fr aS y3 y4:=by rw[hy4];exact(ae _ _).alloc _
 have H4:=O (H3.o.trans kQ)
 have tV:=aC y3 (.cells #[.int .i64 o.what,.int .i64 o.aJ.part,.bool o.aJ.cX.aE,.string o.aJ.cX.host,.int .i64 o.aJ.cX.port,.bool o.aJ.o.aE,.string o.aJ.o.host,.int .i64 o.aJ.o.port,.string o.aJ.path,.string o.aJ.query,.string o.aJ.method,.slice ah hs.length ch,.bool o.aJ.fN,.string o.aJ.body,.bool o.proxy,.string o.text,.string o.user,.string o.pass,.string o.bL,.int .i64 o.cert,.bool o.all,.int .i64 o.n] 41)
 rw[<-hy4]at tV ⊢;clear hy4 kQ;refine(Tg.o _ _ _ (Ca.o.trans H4.o) tV).mono ?_;rintro e y5⟨rfl,h5⟩;have H5:=O (H4.o.trans h5);clear h5 tV Tg JD;cases hbg:qw (o,hs)
 case true =>
  clear hbg;go_wp2;go_ret;exact⟨rfl,(Ca.o.trans H5.o).pz⟩
 have HFT:=O (show∀U,Fr aS w U->gI U o hs from fun U hU=>gI.akU (HA1.o.fr hU) hbg);have HPK:=O (XM n 6 y5 ag ag);obtain⟨i,hi,hi6⟩:∃i:Nat,EL n 6=(i:Int)/\i<6:=by
  have q:=Ce n 6 ag;exact⟨(EL n 6).toNat,ab,ab⟩
 rw[hi]at HPK;clear hbg hi;go_wp2_with fail
 refine HPK.o.mono ?_;rintro e y6⟨rfl,rfl⟩;obtain⟨td,hlen⟩:=wK.of (mj.o.dm (Ca.o.trans H5.o)) WH.o;obtain⟨tP,MQ⟩:=afU td hlen;have wJ:=O tP;have HRN:=O (aa9 (ae aS y5) td ab (HT.o.fr (Ca.o.trans H5.o)));clear td hlen tP HPK WH mj;go_wp2_with fail
 refine HRN.o.mono ?_;rintro e y7⟨T,rfl,h7⟩;have H7:=O (show cO none y5 y7 T (mvT ms)from h7);have HSL:=O MQ;generalize mvT ms=t at *
 have HDS:=O (acS H7.o i hi6);clear h7 HRN MQ;go_wp2_with fail
 refine HDS.o.mono ?_;rintro e y8⟨rfl,rfl⟩;clear HDS;by_cases hd:(t.tab i).does=0
 case neg =>
  have sM:¬(((t.tab i).does:Nat):Int)=0:=ab;have Q2:=O ((Ca.o.trans H5.o).trans H7.o.fr);clear hd;go_wp2;go_ret;exact⟨rfl,Q2.o.pz⟩
 have HD0:=O hd;have Tf:=O (abh (o.dR hs) hi6 hd);have sM:(((t.tab i).does:Nat):Int)=0:=ab;clear hd;have HWC:=O (Bq H7.o wJ.o.inv);go_wp2_with fail
 refine HWC.o.mono ?_;rintro e y9⟨C,qv,rfl,hC,Ts,hn9⟩;have H9:=O (H7.o.aqX Ts hC hn9);clear hC Ts hn9 HWC;have hdo:=H9.o.extra (y':=(ku t.w (o.dR hs)).1) (fun pv hw=>Qq hw H9.o.fr wJ.o.inv (HT.o.fr (Ca.o.trans H5.o)) (HFT.o _ ((Ca.o.trans H5.o).trans H9.o.fr)));rw[d_ lD.o]at hdo;obtain⟨rp,hrp⟩:∃rp,rp=(ku t.w (o.dR hs)).2:=⟨_,rfl⟩;rw[<-hrp]at hdo;have HRP:=O hrp;have HDO:=O hdo
 have HB9:=O (HKO.o _ (H5.o.trans H9.o.fr));clear hdo hrp
 go_wp2_with (first|((with_reducible refine di 42 ?_);refine aH rfl 41 (.tmp 5) rfl w.heap.size rfl _ #[.int .i64 o.what,.int .i64 o.aJ.part,.bool o.aJ.cX.aE,.string o.aJ.cX.host,.int .i64 o.aJ.cX.port,.bool o.aJ.o.aE,.string o.aJ.o.host,.int .i64 o.aJ.o.port,.string o.aJ.path,.string o.aJ.query,.string o.aJ.method,.slice ah hs.length ch,.bool o.aJ.fN,.string o.aJ.body,.bool o.proxy,.string o.text,.string o.user,.string o.pass,.string o.bL,.int .i64 o.cert,.bool o.all,.int .i64 o.n] (0,0) _ HB9.o underlying41 rfl af ?_)|fail)
 refine HDO.o.mono ?_;rintro e y10⟨rfl,TI,aq9⟩;obtain⟨N,hN⟩:∃N,N=y10.heap.size:=⟨_,rfl⟩;have EU:=O (show(y10.alloc (.cells #[.int .i64 0,.string ⟨#[]⟩,.int .i64 0] 30)).heap[N]?=some (.cells #[.int .i64 0,.string ⟨#[]⟩,.int .i64 0] 30 (0,0))from by rw[hN];exact aC _ _)
 obtain⟨y11,abi⟩:∃W,W=(y10.alloc (.cells #[.int .i64 0,.string ⟨#[]⟩,.int .i64 0] 30)).setRow N #[.int .i64 rp.what,.string rp.head,.int .i64 rp.cert]:=⟨_,rfl⟩;have Fp:Fr aS y10 y11:=by rw[abi];exact gV ((ae aS y10).alloc _) (by rw[hN];exact ay _) _
 have ak8:y11.heap[N]?=some (.cells #[.int .i64 rp.what,.string rp.head,.int .i64 rp.cert] 30 (0,0)):=by rw[abi];exact jR EU.o
 have H11:=O (TI.dm Fp);have HN:=O hN;have ak_:=O abi;have ak':=O ak8;have ala:=O (HKO.o _ (H5.o.trans H11.o.fr));have hbg:=Br H11.o (i:Int) o hs (k:=300) ag wJ.o (HFT.o _ ((Ca.o.trans H5.o).trans H11.o.fr)) (Hc (HFT.o _ (Ca.o.trans H5.o)) H11.o.low) (HFT.o _ (Ca.o.trans H5.o)).aJ.2.1;rw[d_ lD.o,Tf.o.1,show xi 0=Value.nilIface from rfl]at hbg;have HBG:=O hbg
 clear hbg TI aq9 hN Fp ak8 abi HDO HB9 H9;go_wp2_with (first
  |((with_reducible refine jn ⟨none,.store 30 _ _,_,_,_,_⟩ ?_)
    rw[<-HN.o]
    refine aF rfl 30 (.tmp 9) (.tmp 43) rfl N #[.int .i64 rp.what,.string rp.head,.int .i64 rp.cert] rfl rfl 30 #[.int .i64 0,.string ⟨#[]⟩,.int .i64 0] EU.o (bf _ rfl) rfl bW ?_
    rw[<-ak_.o])
  |((with_reducible refine di 46 ?_);refine aH rfl 41 (.tmp 5) rfl w.heap.size rfl _ #[.int .i64 o.what,.int .i64 o.aJ.part,.bool o.aJ.cX.aE,.string o.aJ.cX.host,.int .i64 o.aJ.cX.port,.bool o.aJ.o.aE,.string o.aJ.o.host,.int .i64 o.aJ.o.port,.string o.aJ.path,.string o.aJ.query,.string o.aJ.method,.slice ah hs.length ch,.bool o.aJ.fN,.string o.aJ.body,.bool o.proxy,.string o.text,.string o.user,.string o.pass,.string o.bL,.int .i64 o.cert,.bool o.all,.int .i64 o.n] (0,0) _ ala.o underlying41 rfl af ?_)
  |fail)
 refine HBG.o.mono ?_;rintro e y12⟨rfl,h12,alb⟩;have H12:=O (show cO (some (C,(ku t.w (o.dR hs)).1)) y5 y12 T (ri t i (o.dR hs) 0)from h12);have alc:=O (alb.block ak'.o mK);have HOS:=O (EE (HFT.o _ (Ca.o.trans H5.o)));clear h12 alb HBG ala ak' EU HN ak_ H11;go_wp2;go_loopw[10] (af3 y5 T C N (ku t.w (o.dR hs)).1 rp t i (o.dR hs)) (fun iv _=>3-(intOf iv).toNat)
 case atStart=>exact⟨0,ab,rfl,H12.o,alc.o⟩
 case round =>
  obtain⟨k,hk,rfl,hT,hkN⟩:=hrel;clear H12 alc;rcases(show k=0\/k=1\/k=2\/k=3 from ab)with rfl|rfl|rfl|rfl
  ·obtain⟨fw,fl⟩:=Aw wJ.o HSL.o i (o.dR hs) HOS.o 0;have ir:=Al hT (i:Int) (k:=301+2*((0:Nat):Int)) ag fw ab (HT.o.fr (Ca.o.trans H5.o));unfold nE at ir;rw[Tf.o.2.1]at ir;dsimp only at ir;rw[show xi 0=Value.nilIface from rfl]at ir;generalize (jH (ri t i (o.dR hs) 0) (i:Int)).2.1=rr at ir;have HS:=O ir;have HKN:=O hkN;clear ir hT hkN fw fl;go_wp2_with fail
   refine HS.o.mono ?_;rintro e JG⟨rfl,h13,MI⟩;have ES:=MI.block HKN.o mK;obtain⟨M,hM⟩:∃M,M=JG.heap.size:=⟨_,rfl⟩;have X8:=O (show(JG.alloc (.cells #[.int .i64 0,.string ⟨#[]⟩,.int .i64 0] 30)).heap[M]?=some (.cells #[.int .i64 0,.string ⟨#[]⟩,.int .i64 0] 30 (0,0))from by rw[hM];exact aC _ _)
   obtain⟨Fy,Ax⟩:∃W,W=(JG.alloc (.cells #[.int .i64 0,.string ⟨#[]⟩,.int .i64 0] 30)).setRow M #[.int .i64 rr.what,.string rr.head,.int .i64 rr.cert]:=⟨_,rfl⟩;have tB:Fr aS JG Fy:=by rw[Ax];exact gV ((ae aS JG).alloc _) (by rw[hM];exact ay _) _
   have MJ:Fy.heap[M]?=some (.cells #[.int .i64 rr.what,.string rr.head,.int .i64 rr.cert] 30 (0,0)):=by rw[Ax];exact jR X8.o
   have Bk:=tB.keep ES id;have XO:=O Bk;have H14:=O (show cO (some (C,(ku t.w (o.dR hs)).1)) y5 Fy T (ri t i (o.dR hs) 1)from h13.dm tB);have HM:=O hM;have XP:=O Ax;clear h13 MI ES hM tB MJ Bk Ax HS HKN;go_wp2_with (first
    |((with_reducible refine jn ⟨none,.store 30 _ _,_,_,_,_⟩ ?_)
      rw[<-HM.o]
      refine aF rfl 30 (.tmp 11) (.tmp 57) rfl M #[.int .i64 rr.what,.string rr.head,.int .i64 rr.cert] rfl rfl 30 #[.int .i64 0,.string ⟨#[]⟩,.int .i64 0] X8.o (bf _ rfl) rfl bW ?_
      rw[<-XP.o])
    |fail)
   go_roundw
   case rel=>exact⟨1,ab,bg,H14.o,XO.o⟩
   case measure=>simp[intOf]
  ·obtain⟨fw,fl⟩:=Aw wJ.o HSL.o i (o.dR hs) HOS.o 1;have ir:=Al hT (i:Int) (k:=301+2*((1:Nat):Int)) ag fw ab (HT.o.fr (Ca.o.trans H5.o));unfold nE at ir;rw[Tf.o.2.2.1]at ir;dsimp only at ir;rw[show xi 0=Value.nilIface from rfl]at ir;generalize (jH (ri t i (o.dR hs) 1) (i:Int)).2.1=rr at ir;have HS:=O ir;have HKN:=O hkN;clear ir hT hkN fw fl;go_wp2_with fail
   refine HS.o.mono ?_;rintro e JG⟨rfl,h13,MI⟩;have ES:=MI.block HKN.o mK;obtain⟨M,hM⟩:∃M,M=JG.heap.size:=⟨_,rfl⟩;have X8:=O (show(JG.alloc (.cells #[.int .i64 0,.string ⟨#[]⟩,.int .i64 0] 30)).heap[M]?=some (.cells #[.int .i64 0,.string ⟨#[]⟩,.int .i64 0] 30 (0,0))from by rw[hM];exact aC _ _)
   obtain⟨Fy,Ax⟩:∃W,W=(JG.alloc (.cells #[.int .i64 0,.string ⟨#[]⟩,.int .i64 0] 30)).setRow M #[.int .i64 rr.what,.string rr.head,.int .i64 rr.cert]:=⟨_,rfl⟩;have tB:Fr aS JG Fy:=by rw[Ax];exact gV ((ae aS JG).alloc _) (by rw[hM];exact ay _) _
   have MJ:Fy.heap[M]?=some (.cells #[.int .i64 rr.what,.string rr.head,.int .i64 rr.cert] 30 (0,0)):=by rw[Ax];exact jR X8.o
   have Bk:=tB.keep ES id;have XO:=O Bk;have H14:=O (show cO (some (C,(ku t.w (o.dR hs)).1)) y5 Fy T (ri t i (o.dR hs) 2)from h13.dm tB);have HM:=O hM;have XP:=O Ax;clear h13 MI ES hM tB MJ Bk Ax HS HKN;go_wp2_with (first
    |((with_reducible refine jn ⟨none,.store 30 _ _,_,_,_,_⟩ ?_)
      rw[<-HM.o]
      refine aF rfl 30 (.tmp 11) (.tmp 57) rfl M #[.int .i64 rr.what,.string rr.head,.int .i64 rr.cert] rfl rfl 30 #[.int .i64 0,.string ⟨#[]⟩,.int .i64 0] X8.o (bf _ rfl) rfl bW ?_
      rw[<-XP.o])
    |fail)
   go_roundw
   case rel=>exact⟨2,ab,bg,H14.o,XO.o⟩
   case measure=>simp[intOf]
  ·obtain⟨fw,fl⟩:=Aw wJ.o HSL.o i (o.dR hs) HOS.o 2;have ir:=Al hT (i:Int) (k:=301+2*((2:Nat):Int)) ag fw ab (HT.o.fr (Ca.o.trans H5.o));unfold nE at ir;rw[Tf.o.2.2.2.1]at ir;dsimp only at ir;rw[show xi 0=Value.nilIface from rfl]at ir;rw[<-HRP.o]at ir;obtain⟨rr,B_⟩:∃rr,rr=rp:=⟨_,rfl⟩;have HS:=O ir;have HKN:=O hkN;clear ir hT hkN fw fl;go_wp2_with fail
   refine HS.o.mono ?_;rintro e JG⟨rfl,h13,MI⟩;have ES:=MI.block HKN.o mK;obtain⟨M,hM⟩:∃M,M=JG.heap.size:=⟨_,rfl⟩;have X8:=O (show(JG.alloc (.cells #[.int .i64 0,.string ⟨#[]⟩,.int .i64 0] 30)).heap[M]?=some (.cells #[.int .i64 0,.string ⟨#[]⟩,.int .i64 0] 30 (0,0))from by rw[hM];exact aC _ _)
   obtain⟨Fy,Ax⟩:∃W,W=(JG.alloc (.cells #[.int .i64 0,.string ⟨#[]⟩,.int .i64 0] 30)).setRow M #[.int .i64 rp.what,.string rp.head,.int .i64 rp.cert]:=⟨_,rfl⟩;have tB:Fr aS JG Fy:=by rw[Ax];exact gV ((ae aS JG).alloc _) (by rw[hM];exact ay _) _
   have MJ:Fy.heap[M]?=some (.cells #[.int .i64 rp.what,.string rp.head,.int .i64 rp.cert] 30 (0,0)):=by rw[Ax];exact jR X8.o
   have Bk:=tB.keep ES id;have XO:=O Bk;have H14:=O (show cO (some (C,(ku t.w (o.dR hs)).1)) y5 Fy T (ri t i (o.dR hs) 3)from h13.dm tB);have HM:=O hM;have XP:=O Ax;have m0:Fy.cell? ⟨M,0,none⟩=some (.int .i64 rp.what):=by simp[World.cell?,MJ]
   have m1:Fy.cell? ⟨M,1,none⟩=some (.string rp.head):=by simp[World.cell?,MJ]
   have m2:Fy.cell? ⟨M,2,none⟩=some (.int .i64 rp.cert):=by simp[World.cell?,MJ]
   have n0:Fy.cell? ⟨N,0,none⟩=some (.int .i64 rp.what):=by simp[World.cell?,Bk]
   have n1:Fy.cell? ⟨N,1,none⟩=some (.string rp.head):=by simp[World.cell?,Bk]
   have n2:Fy.cell? ⟨N,2,none⟩=some (.int .i64 rp.cert):=by simp[World.cell?,Bk]
   have hnq:=MF rp.what rp.cert rp.head;clear h13 MI ES hM tB MJ Bk Ax HS HKN;go_wp2_with (first
    |((with_reducible refine jn ⟨none,.store 30 _ _,_,_,_,_⟩ ?_)
      rw[<-HM.o]
      refine aF rfl 30 (.tmp 11) (.tmp 57) rfl M #[.int .i64 rp.what,.string rp.head,.int .i64 rp.cert] rfl rfl 30 #[.int .i64 0,.string ⟨#[]⟩,.int .i64 0] X8.o (bf _ rfl) rfl bW ?_
      rw[<-XP.o])
    |fail)
   go_roundw
   case rel=>exact⟨3,ab,bg,H14.o,XO.o⟩
   case measure=>simp[intOf]
  ·have PV:=Tf.o.2.2.2.2.1;obtain⟨fw,fl⟩:=Aw wJ.o HSL.o i (o.dR hs) HOS.o 3;have H15:=O hT;have HWC:=O (Bq hT fw.inv);have KM:=O fw.inv.ok;have VX:=O PV.symm;clear hT hkN fw fl PV;go_wp2_with fail
   refine HWC.o.mono ?_;rintro e y16⟨D,qd,rfl,hD,ale, -⟩;have Uv:=H15.o.dm ale;have HWS:=O (ME Uv hD VX.o KM.o);have H16:=O Uv;clear Uv hD ale HWC H15;go_wp2_with fail
   refine HWS.o.mono ?_;rintro e y17⟨rfl,alf⟩;have H17:=O (H16.o.dm alf);have hdz:=acS H17.o i hi6;rw[Tf.o.2.2.2.2.2]at hdz;have HDZ:=O hdz;clear alf hdz HWS H16;go_wp2_with fail
   refine HDZ.o.mono ?_;rintro e y18⟨rfl,rfl⟩;go_wp2;go_ret;exact⟨rfl,((Ca.o.trans H5.o).trans H17.o.fr).pz⟩
