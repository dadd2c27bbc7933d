/- Lemmas for the law's walk. -/
import Derived.Test.YtjndhcngnghpiaaGreatDoorPn19
import Derived.Test.YtjndhcngnghpiaaGreatDoorTie
import Derived.Test.YtjndhcngnghpiaaGreatDoorCards
import Derived.LaidMore
import Derived.Lay
set_option maxRecDepth 100000
set_option maxHeartbeats 16000000
set_option linter.unusedSimpArgs false
namespace Go.Proofs.YtjndhcngnghpiaaGreatDoor
open Go.Proofs.Tryz
open Go.RowKit
variable {k:Int} {a w:World} {T base C i:Nat} {t u:im} {o:jz} {v:Value} {hs:List gY} {y:dN}
section
variable {xw : Option (Nat × dN)} {a U U' : World} {T : Nat} {t : im}
theorem LW(h:df xw a U T t)(n:Int)(hk:k+2<=1000000)(hf:fS k t)(hl:t.fJ.length<1000000)(Sw:∀i,i<6->(t.tab i).does=2->aav a (t.tab i).seen (t.tab i).op) :
  aB 13 #[.pointer (some ⟨T,0,none⟩),.int .i64 n] U (qj xw a U T (kZ t n)):=by
 obtain⟨x1,mI⟩:∃x1,x1=U.alloc (.cells #[.int .i64 0,.string ⟨#[]⟩,.int .i64 0] 46):=⟨_,rfl⟩;have dn:Fr aS U x1:=by rw[mI];exact(ae aS U).alloc _
 have kR0:x1.heap[U.heap.size]?=some (.cells bR 46 (0,0)):=by rw[mI];exact aC _ _
 obtain⟨R,hR⟩:∃R,R=U.heap.size:=⟨_,rfl⟩;rw[<-hR]at kR0;have KR:=O kR0;have HR:=O hR;have HX:=O mI;have XR:=O (eH dn);have XU:=O (show U.heap.size<=R from ab);have XV:=O (show a.heap.size<=R by have:=h.fr.size;omega);have h1:=h.di dn;have H1:=O h1;have HF:=O hf;have HK:=O hk;clear mI kR0 hR;cases hn:yn n
 ·as_aux_lemma =>
   have HE:=O (show kZ t n=(t,rep 0,false,2)by unfold kZ;rw[hn];rfl);have HC:=O (Iv x1 T hn);clear hn h h1 hf hk hl Sw dn;go_enter func13,ntmps13;go_wp2_with fail
   rw[<-HX.o, <-HR.o];refine HC.o.mono ?_;rintro e u⟨rfl,rfl⟩;unfold xa;go_wp2_with (first|((with_reducible refine cV 46 ?_);refine aG rfl 46 (.tmp 4) (.tmp 17) rfl R #[.int .i64 0,.string ⟨#[]⟩,.int .i64 0] rfl rfl _ bR KR.o (bf _ rfl) rfl ct ?_)|fail)
   refine aU (ji bC _ _ R 46 #[.int .i64 0,.string ⟨#[]⟩,.int .i64 0] (0,0) _ rfl (aY _ R _ _ _ _ KR.o) underlying46 rfl (bf _ rfl)) rfl ?_;rw[HE.o];exact step_end H1.o XR.o XU.o XV.o KR.o _ rfl
 ·obtain⟨i,rfl,hi⟩:=Cu hn;have e1:((i:Int)).toNat=i:=rfl;have HC:=O (N8 x1 T hi);have HI:=O hi;obtain⟨cd,IM,WL, -, -⟩:=h1.cells hi;have hdo:=hf.does i;by_cases hd:(t.tab i).does=0
  ·as_aux_lemma =>
    have HE:=O (show kZ t (i:Int)=(t,rep 0,false,8)by unfold kZ;rw[hn,aA rfl,e1,aA hd]);rw[hd]at cd;clear hn h h1 hf hk hl Sw dn hd hdo hi IM WL;go_enter func13,ntmps13;go_wp2_with fail
    rw[<-HX.o, <-HR.o];refine HC.o.mono ?_;rintro e u⟨rfl,rfl⟩;go_wp2_with (first|((with_reducible refine cV 46 ?_);refine aG rfl 46 (.tmp 4) (.tmp 39) rfl R #[.int .i64 0,.string ⟨#[]⟩,.int .i64 0] rfl rfl _ bR KR.o (bf _ rfl) rfl ct ?_)|fail)
    refine aU (ji bC _ _ R 46 #[.int .i64 0,.string ⟨#[]⟩,.int .i64 0] (0,0) _ rfl (aY _ R _ _ _ _ KR.o) underlying46 rfl (bf _ rfl)) rfl ?_;rw[HE.o];exact step_end H1.o XR.o XU.o XV.o KR.o _ rfl
  ·rcases(show(t.tab i).does=1\/(t.tab i).does=2\/(t.tab i).does=3 from ab)with yJ|su|hd3
   ·skip
    have HE:=O (show kZ t (i:Int)=({(t.put i {t.tab i with seen:=t.w,num:=t.num,does:=2})with steps:=t.steps+1},rep 0,false,0)by unfold kZ;rw[hn,aA rfl,e1,ar hd,step1 yJ]);rw[yJ]at cd;have hkr:x1.drew.heap[R]?=some (.cells bR 46 (0,0)):=KR.o;have h2:=h1.di (az (ae aS x1));obtain⟨B,g,sv,sb,p1,p2,p3,p4⟩:=h2.ex;obtain⟨pv,hw⟩:=p2.at (i:=6) (B:=B) (x:=t.w) rfl;have Tm:=O (A_ _ _ _ _ _ hw hf.inv.qZ)
    have Vs:=O (fun U' C qv hF hc hn=>Su (U':=U') (C:=C) (qv:=qv) hi p1 p2 p3 p4 ab h2.low h2.fr hF hc hn);have PN:=O p1;have m0:=p1.main;have mn:=p1.num;clear hn h h1 hf hk hl Sw dn hd hdo hi IM WL hw p1 p2 p3 p4 h2 hkr;go_enter func13,ntmps13;go_wp2_with fail
    rw[<-HX.o, <-HR.o];refine HC.o.mono ?_;rintro e u⟨rfl,rfl⟩;go_wp2_with fail
    refine wp_region_held_drew (S:=(fun V=>V.cell? ⟨T,0,none⟩=some (.pointer (some ⟨B,0,none⟩))/\V.rangeAt T 1 (kU t.num))) af (by exact⟨m0,mn⟩) ?_;intro Aj;refine aW 0 43 rfl ?_;refine aW 1 44 rfl ?_;refine aW 2 45 rfl ?_;refine aW 3 46 rfl ?_;refine aW 4 47 rfl ?_;refine aW 5 48 rfl ?_;refine aW 6 49 rfl ?_;refine aW 8 51 rfl ?_;refine aW 9 52 rfl ?_;refine aW 10 53 rfl ?_
    refine v8 11 54 rfl (gR bC 73 (.tmp 53) rfl T 1 rfl (kU t.num) _ (fun w hw=>hw.2) underlying73 rfl af) ?_
    try simp only[Act.put,sA,sB,sC]
    refine eT 7 rfl fun K hK=>?_;go_simp;refine Tm.o.mono ?_;rintro e u2⟨C,qv,rfl,hc,xZ,Hi⟩;have q:=Vs.o u2 C qv xZ hc Hi;obtain⟨q1,q2,q3,q4,q5⟩:=q;have Jk:=O q1;have XL:=O q2;have HTH:=O q5;have b2:=PN.o.fr xZ id;have d25:u2.cell? ⟨T,17+i*45+25,none⟩=some (g i).sp:=b2.tab i HI.o 25 _ rfl;have f25:=b2.free (17+i*45+25);have pN:=O b2;have Vw:=O xZ;rw[yJ]at q3
    have HS:=O (show u2.cell? ⟨T,0,none⟩=some (.pointer (some ⟨B,0,none⟩))/\u2.rangeAt T 1 (kU t.num)from⟨b2.main,b2.num⟩);refine hK.out _ _ HS.o ?_;intro yl;clear hK K q1 q2 q5 hc xZ Hi b2
    try simp only[Act.put,sA,sB,sC]
    refine aW 12 55 rfl ?_;refine aW 13 56 rfl ?_;clear Aj yl;refine eT 14 rfl fun K hK=>?_;go_simp;have BJ:(u2.setCell ⟨T,17+i*45+25,none⟩ (.pointer (some ⟨C,0,none⟩))).cell? ⟨T,0,none⟩=some (.pointer (some ⟨B,0,none⟩))/\(u2.setCell ⟨T,17+i*45+25,none⟩ (.pointer (some ⟨C,0,none⟩))).rangeAt T 1 (kU t.num):=⟨eU (vs:=[_]) HS.o.1 (Or.inl ab),yu HS.o.2 (by rw[ny];omega)⟩;refine hK.out _ _ BJ ?_;intro E_
    clear hK K d25 f25 E_;generalize u2.setCell ⟨T,17+i*45+25,none⟩ (.pointer (some ⟨C,0,none⟩))=u3 at *
    try simp only[Act.put,sA,sB,sC]
    refine aW 15 57 rfl ?_;refine aW 16 58 rfl ?_;refine wpAnyH_ready (rs:=[17]) af aR ?_;refine AllReadyH.cons (o:=⟨none,_,_,_,_,_⟩) rfl (fun K hK=>?_) AllReadyH.nil;refine rP rfl 73 (.tmp 58) (.tmp 54) rfl T (17+i*45+26) (kU t.num).toArray rfl rfl HTH.o af (WK t.num) ?_
    have AX:(u3.setCells T (17+i*45+26) (kU t.num)).cell? ⟨T,0,none⟩=some (.pointer (some ⟨B,0,none⟩))/\(u3.setCells T (17+i*45+26) (kU t.num)).rangeAt T 1 (kU t.num):=⟨eU BJ.1 (Or.inl ab),bX BJ.2 T _ _ (Or.inr (Or.inl (by rw[ny];omega)))⟩;refine hK.out _ _ AX ?_;intro hS5;clear hK K hS5 BJ;rw[show(kU t.num).toArray.toList=kU t.num from rfl];generalize u3.setCells T (17+i*45+26) (kU t.num)=u4 at *
    try simp only[Act.put,sA,sB,sC]
    refine aW 18 59 rfl ?_;refine aW 19 60 rfl ?_;refine wpAnyH_ready (rs:=[20]) af aR ?_;have q4':=q4 (17+i*45);have HS4:=O AX;clear q4;have Xy:u4.there T (17+i*45) 1:=fun j hj=>by
     have e:j=0:=ab;subst e;exact⟨by rw[Nat.add_zero,q3];rfl,q4'⟩
    refine AllReadyH.cons (o:=⟨none,_,_,_,_,_⟩) rfl (fun K hK=>?_) AllReadyH.nil;refine Eh rfl 3 (.tmp 60) _ rfl T (17+i*45) (.int .i64 2) rfl rfl rfl Xy af rfl ?_;have AX:=HS4.o
    have hS6:(u4.setCell ⟨T,17+i*45,none⟩ (.int .i64 2)).cell? ⟨T,0,none⟩=some (.pointer (some ⟨B,0,none⟩))/\(u4.setCell ⟨T,17+i*45,none⟩ (.int .i64 2)).rangeAt T 1 (kU t.num):=⟨eU (vs:=[_]) AX.1 (Or.inl ab),yu AX.2 (by rw[ny];omega)⟩;refine hK.out _ _ hS6 ?_;intro hS7;clear hK K hS7 hS6 AX HS4 q3 q4' Xy;generalize u4.setCell ⟨T,17+i*45,none⟩ (.int .i64 2)=u5 at *
    try simp only[Act.put,sA,sB,sC]
    refine wpAnyH_done af ?_ _;generalize (kU t.num).toArray=nn;have Ul:gN U u5:=by
     obtain⟨c,hc,_⟩:=pN.o.eJ;exact(XR.o.trans (eH ((az (ae aS u)).trans Vw.o))).tabs hc XL.o
    have Bu:u5.heap[R]?=some (.cells bR 46 (0,0)):=by
     obtain⟨c,hc,_⟩:=pN.o.eJ;refine(((lo u).trans (eH ((az (ae aS u)).trans Vw.o))).tabs hc XL.o).block KR.o rO
    obtain⟨-, IM,WL, -, -⟩:=Jk.o.cells HI.o;have cf:=WL 287;have s1:=HF.o.steps.1;have s2:=HF.o.steps.2;have hkk:=HK.o;have aj6:u5.cell? ⟨T,287,none⟩=some (.int .i64 t.steps):=IM;obtain⟨tk1,WM⟩:=Jk.o.tick (t.steps+1);have HT1:=O tk1;obtain⟨cT,IK⟩:=Jk.o.kind;have HK6:=O (Ul.tabs IK WM);have Jh:=O (WM.keep Bu (fun e=>by cases(show R=T from e);rw[IK]at Bu;cases Bu));clear tk1 WM Ul Bu IK IM WL
    go_wp2_with (first|((with_reducible refine cV 46 ?_);refine aG rfl 46 (.tmp 4) (.tmp 85) rfl R #[.int .i64 0,.string ⟨#[]⟩,.int .i64 0] rfl rfl _ bR Jh.o (bf _ rfl) rfl ct ?_)|fail)
    refine aU (ji bC _ _ R 46 #[.int .i64 0,.string ⟨#[]⟩,.int .i64 0] (0,0) _ rfl (aY _ R _ _ _ _ Jh.o) underlying46 rfl (bf _ rfl)) rfl ?_;rw[HE.o];exact step_end HT1.o HK6.o XU.o XV.o Jh.o _ rfl
   ·as_aux_lemma =>
     have HE:=O (show kZ t (i:Int)=({(t.put i {t.tab i with jy:=(mi (t.tab i).seen (t.tab i).op).2,seen:=(mi (t.tab i).seen (t.tab i).op).1,does:=3})with steps:=t.steps+1},rep 0,false,0)by unfold kZ;rw[hn,aA rfl,e1,ar hd,step2 su]);rw[su]at cd;have h2:=h1.di (az (ae aS x1));obtain⟨B,g,sv,sb,p1,p2,p3,p4⟩:=h2.ex;obtain⟨go1,go2⟩:=((p4 i hi).1 ab).fits;have ql:=(p4 i hi).2 (Or.inl su)
     have HDO:=O (df.seen hi (Or.inl su) p1 p2 p3 p4 h2.low h2.fr (x':=(mi (t.tab i).seen (t.tab i).op).1) (fun pv hw=>by
      exact Sw i hi su _ _ pv _ _ go2 hw h2.fr go1))
     have HWK:=O (fun U' q1 q2 q3 q4 q5=>Sv (U:=U') (B:=B) (xw:=xw) (a:=a) (g:=g) (sv:=sv) (sb:=sb) (x':=(mi (t.tab i).seen (t.tab i).op).1) (mi (t.tab i).seen (t.tab i).op).2 hi q1 q2 q3 q4 (fun n hn=>(p4 n hn).2) su h2.low q5);have m25:x1.drew.cell? ⟨T,17+i*45+25,none⟩=some (.pointer (some ⟨sb i,0,none⟩)):=by rw[<-ql];exact p1.tab i hi 25 _ rfl
     have mop:x1.drew.rangeAt T (17+i*45+1) (g i).o.cells:=kG (p:=[.int .i64 (t.tab i).does]) (q:=(g i).o.cells) (p1.tab i hi);have xF:=O ql;have HOC:=O (show(g i).o.cells.length=22 from rfl);have PN:=O p1;obtain⟨r,hr⟩:∃r,r=(mi (t.tab i).seen (t.tab i).op).2:=⟨_,rfl⟩;rw[<-hr]at HDO HWK HE;obtain⟨oc,Hh⟩:∃oc,oc=(g i).o.cells:=⟨_,rfl⟩;have HOV:=O Hh;rw[<-Hh]at HDO mop HOC
     clear hn h h1 hf hk hl Sw dn hd hdo hi IM WL p1 p2 p3 p4 h2 ql go1 go2 hr Hh;go_enter func13,ntmps13;go_wp2_with fail
     rw[<-HX.o, <-HR.o];refine HC.o.mono ?_;rintro e u⟨rfl,rfl⟩;go_wp2_with fail
     refine wp_region_held_drew (S:=(fun V=>V.cell? ⟨T,17+i*45+25,none⟩=some (.pointer (some ⟨sb i,0,none⟩))/\V.rangeAt T (17+i*45+1) oc)) af (by exact⟨m25,mop⟩) ?_;intro Aj;refine aW 0 63 rfl ?_;refine aW 1 64 rfl ?_;refine aW 2 65 rfl ?_;refine aW 3 66 rfl ?_;refine aW 4 67 rfl ?_;refine aW 5 68 rfl ?_;refine aW 6 69 rfl ?_;refine aW 7 70 rfl ?_;refine aW 8 71 rfl ?_
     refine v8 9 72 rfl (gR bC 33 (.tmp 71) rfl T (17+i*45+1) rfl oc _ (fun w hw=>hw.2) underlying33 rfl (by rw[HOC.o];kernel_rfl)) ?_
     try simp only[Act.put,sA,sB,sC]
     refine eT 10 rfl fun K hK=>?_;go_simp;refine HDO.o.mono ?_;rintro e u2⟨rfl,⟨y1,y2,y3,y4,y5⟩,y6⟩;obtain⟨q1,q2,q3,q4,q5⟩:=HWK.o u2 y1 y2 y3 y4 y5;have Jk:=O q1;have XL:=O q2;have HTH:=O q5;have pN:=O y1;have HY6:=O (gN.Oa y6);rw[su]at q3
     have HS:=O (show u2.cell? ⟨T,17+i*45+25,none⟩=some (.pointer (some ⟨sb i,0,none⟩))/\u2.rangeAt T (17+i*45+1) oc from⟨by rw[<-xF.o];exact y1.tab i HI.o 25 _ rfl,by rw[HOV.o];exact kG (p:=[.int .i64 (t.tab i).does]) (q:=(g i).o.cells) (y1.tab i HI.o)⟩);refine hK.out _ _ HS.o ?_;intro yl;clear hK K q1 q2 q5 y1 y2 y3 y4 y5 y6 Aj yl
     try simp only[Act.put,sA,sB,sC]
     refine aW 11 74 rfl ?_;refine aW 12 75 rfl ?_;refine wpAnyH_ready (rs:=[13]) af aR ?_;refine AllReadyH.cons (o:=⟨none,_,_,_,_,_⟩) rfl (fun K hK=>?_) AllReadyH.nil;refine rP rfl 46 (.tmp 75) (.tmp 73) rfl T (17+i*45+42) (qg r).toArray rfl rfl HTH.o af (WJ r) ?_
     have AX:(u2.setCells T (17+i*45+42) (qg r)).cell? ⟨T,17+i*45+25,none⟩=some (.pointer (some ⟨sb i,0,none⟩))/\(u2.setCells T (17+i*45+42) (qg r)).rangeAt T (17+i*45+1) oc:=⟨eU HS.o.1 (Or.inl ab),bX HS.o.2 T _ _ (Or.inr (Or.inl (by rw[HOC.o];omega)))⟩;refine hK.out _ _ AX ?_;intro hS5;clear hK K hS5;rw[show(qg r).toArray.toList=qg r from rfl];generalize u2.setCells T (17+i*45+42) (qg r)=u4 at *
     try simp only[Act.put,sA,sB,sC]
     refine aW 14 76 rfl ?_;refine aW 15 77 rfl ?_;refine wpAnyH_ready (rs:=[16]) af aR ?_;have q4':=q4 (17+i*45);have HS4:=O AX;clear q4 AX;refine AllReadyH.cons rfl (fun K hK=>?_) AllReadyH.nil;go_simp;have AX:=HS4.o
     have hS6:(u4.setCell ⟨T,17+i*45,none⟩ (.int .i64 3)).cell? ⟨T,17+i*45+25,none⟩=some (.pointer (some ⟨sb i,0,none⟩))/\(u4.setCell ⟨T,17+i*45,none⟩ (.int .i64 3)).rangeAt T (17+i*45+1) oc:=⟨eU (vs:=[_]) AX.1 (Or.inr (by show 17+i*45+1<=_;omega)),bX AX.2 T (17+i*45) [_] (Or.inr (Or.inr (by show 17+i*45+1<=_;omega)))⟩;refine hK.out _ _ hS6 ?_;intro hS7;clear hK K hS7 hS6 AX HS4 q3 q4'
     generalize u4.setCell ⟨T,17+i*45,none⟩ (.int .i64 3)=u5 at *
     refine wpAnyH_done af ?_ _;have Ul:gN U u5:=by
      obtain⟨c,hc,_⟩:=pN.o.eJ;exact(XR.o.trans ((eH (az (ae aS u))).trans HY6.o)).tabs hc XL.o
     have Bu:u5.heap[R]?=some (.cells bR 46 (0,0)):=by
      obtain⟨c,hc,_⟩:=pN.o.eJ;refine(((lo u).trans ((eH (az (ae aS u))).trans HY6.o)).tabs hc XL.o).block KR.o rO
     obtain⟨-, IM,WL, -, -⟩:=Jk.o.cells HI.o;have cf:=WL 287;have s1:=HF.o.steps.1;have s2:=HF.o.steps.2;have hkk:=HK.o;have aj6:u5.cell? ⟨T,287,none⟩=some (.int .i64 t.steps):=IM;obtain⟨tk1,WM⟩:=Jk.o.tick (t.steps+1);have HT1:=O tk1;obtain⟨cT,IK⟩:=Jk.o.kind;have HK6:=O (Ul.tabs IK WM);have Jh:=O (WM.keep Bu (fun e=>by cases(show R=T from e);rw[IK]at Bu;cases Bu));clear tk1 WM Ul Bu IK IM WL
     go_wp2_with (first|((with_reducible refine cV 46 ?_);refine aG rfl 46 (.tmp 4) (.tmp 85) rfl R #[.int .i64 0,.string ⟨#[]⟩,.int .i64 0] rfl rfl _ bR Jh.o (bf _ rfl) rfl ct ?_)|fail)
     refine aU (ji bC _ _ R 46 #[.int .i64 0,.string ⟨#[]⟩,.int .i64 0] (0,0) _ rfl (aY _ R _ _ _ _ Jh.o) underlying46 rfl (bf _ rfl)) rfl ?_;rw[HE.o];exact step_end HT1.o HK6.o XU.o XV.o Jh.o _ rfl
   ·as_aux_lemma =>
     have HE:=O (show kZ t (i:Int)=((jZ {t with steps:=t.steps+1} i).1,(jZ {t with steps:=t.steps+1} i).2.1,(jZ {t with steps:=t.steps+1} i).2.2,0)by unfold kZ;rw[hn,aA rfl,e1,ar hd,aj4 hd3]);rw[hd3]at cd;have cf:=WL 287;have s1:=hf.steps.1;have s2:=hf.steps.2;obtain⟨tk1,WM⟩:=h1.tick (t.steps+1);obtain⟨cT,IK⟩:=h1.kind;have HCM:=O (OA tk1 hi hd3 (show k+1<1000000 from ab) hf.tick hl)
     have HK5:=O ((eH dn).tabs IK WM);have Mx:=O (WM.keep KR.o (fun e=>by
      cases(show R=T from e);have:=KR.o;rw[IK]at this;cases this))
     clear hn h h1 hf hl Sw dn hd hdo hi WL tk1 WM IK;go_enter func13,ntmps13;go_wp2_with fail
     rw[<-HX.o, <-HR.o];refine HC.o.mono ?_;rintro e u⟨rfl,rfl⟩;go_wp2_with fail
     refine HCM.o.mono ?_;rintro e w6⟨rfl,z1,z2⟩;have Qf:=O z1;have HZ2:=O z2;have HZR:=O (z2.block Mx.o rO);clear z1 z2;generalize jZ {t with steps:=t.steps+1} i=cr at *
     go_wp2_with (first|((with_reducible refine cV 46 ?_);refine aG rfl 46 (.tmp 4) (.tmp 34) rfl R #[.int .i64 cr.2.1.what,.string cr.2.1.head,.int .i64 cr.2.1.cert] rfl rfl _ bR HZR.o (bf _ rfl) rfl ct ?_)|fail)
     refine aU (ji bC _ _ R 46 #[.int .i64 cr.2.1.what,.string cr.2.1.head,.int .i64 cr.2.1.cert] (0,0) _ rfl (aY _ R _ _ _ _ HZR.o) underlying46 rfl (bf _ rfl)) rfl ?_;rw[HE.o];exact step_end Qf.o (HK5.o.trans HZ2.o) XU.o XV.o HZR.o _ rfl
end
theorem aav.any{x:dN}{op:kl}(hi:lI x)(ht:kC a):aav a x op:=fun V B pv o hs ho hw hf sR=>by
 have:=aae hw hf hi ht sR;rw[ho]at this;exact this
theorem LX{xw:Option (Nat×dN)}{U:World}(h:df xw a U T t)(n:Int)(hk:k+2<=1000000)(hf:fS k t)(hl:t.fJ.length<1000000)(ht:kC a) :
  aB 13 #[.pointer (some ⟨T,0,none⟩),.int .i64 n] U (qj xw a U T (kZ t n)) :=
 LW h n hk hf hl (fun i _ hd=>aav.any (hf.seen i (Or.inl hd)) ht)
section
variable {xw : Option (Nat × dN)} {a U U' : World} {T : Nat} {t : im}
def WT(U:World)(es:List (P7×(jz×List gY)))(l i:Value)(wr:World):Prop :=
 ∃k:Nat,k<=es.length/\i=.int .i64 k/\Fr aS U wr/\∃fs:List (P7×(jz×List gY)),fs.map (·.1)=(es.take k).map (·.1)/\OwnRows U.heap.size 88 28 wr l (fs.map Iw)/\∀x∈fs,j_ U.heap.size wr x.2 x.1.op
theorem WU:(prog.info? 88).map (·.zero)=some (some (.agg Ed)):=af
theorem IU:(prog.info? 88).map (·.size)=some 28:=af
theorem aay{l:aX}(h:∀u∈l,u.oneCell'=true):l.toArray.all (·.oneCell')=true:=bW h
theorem aaz{w9:World}{N:Nat}{ev:P7}{nh:Nat}{ah:eQ}{ch:Nat}(a9:eQ)(c9:Nat){y:aX}{i0:TypeInfo}(kQ:i0.size=28)(hy:y=Tt ev.tab o ah nh ch ev.jy ev.ng ev.fin)(k9:w9.heap[N]?=some (.cells y.toArray 88 (0,0))){wr:World}{xs:cY}(hF:Fr aS wr w9)(hN:N=wr.heap.size)(ho:OwnRows base 88 28 wr v xs) :
  ∃(y2:aX) (W3:World),y2=Tt ev.tab o a9 nh c9 ev.jy ev.ng ev.fin/\W3=w9.setCell ⟨N,12,none⟩ (.slice a9 nh c9)/\W3.heap[N]?=some (.cells y2.toArray 88 (0,0))/\Fr (one N) w9 W3/\y2.length=28/\(∀u∈y2,u.oneCell'=true)/\Instr.fill (fun i=>some (i*i0.size,i0.size)) ((Array.range (1*i0.size)).map ((Value.agg Ed).cells[· %(Value.agg Ed).cells.size]!)) [(0,.agg y2.toArray)]=some y2.toArray/\OwnRows base 88 28 W3 v xs:=by
 have Ts:Fr (one N) w9 (w9.setCell ⟨N,12,none⟩ (.slice a9 nh c9)):=(ae (one N) _).setCell (p:=⟨N,12,none⟩) (fun _=>rfl) _;refine⟨_,_,rfl,rfl,?_,Ts,rfl,IH _ _ _ _ _ _ _ _,by rw[kQ];exact Ot _ _ _ _ _ _ _ _,(ho.fr hF (fun _ _ h=>h)).fr Ts (fun b hb e=>?_)⟩
 ·rw[b_ k9,hy];rfl
 ·have:=ho.lt b hb;have e':b=N:=e;omega
theorem wS(h:df xw a U T t)(hl:t.fJ.length<1000000) :
  aB 16 #[.pointer (some ⟨T,0,none⟩)] U fun e w'=>∃sv,e=.returned sv/\ph U.heap.size w' sv t.fJ/\Fr aS U w':=by
 obtain⟨B,g,sv,sb,h1,h2,⟨es,Mn,mg,B_⟩,h4⟩:=h.ex;obtain⟨asv,csv,Wt⟩:=mg.form;rw[ai]at Wt;subst Wt;have apL:es.length<1000000:=by rw[<-ai (f:=(·.1)),Mn];exact hl
 have HRW:=O (fun V (hV:Fr aS U V)=>bh mg.at hV);have HOP:=O (fun V (hV:Fr aS U V) x (hx:x∈es)=>(B_ x hx).kept (jh hV));have aka:=h1.st;obtain⟨i0,qp,o9,kQ,ld⟩:=info_parts II;have HES:=O Mn;clear h h1 h2 h4 Mn mg B_;go_enter func16,ntmps16
 go_wp2_with (at_make
              refine wpList_make_own _ rfl _ _ 54 rfl U.heap.size 88 i0 (.agg Ed) 28 underlying54 qp o9 kQ .i64 .i64 _ es.length rfl rfl rfl (by rw[ld];omega) ft (ay _) ?_
              intro w1 ri akb
              have Re:Fr aS U w1:=fl (ae _ _) akb (fun k hk=>by cases hk)
              have akc:=nQ aka Re id)
 go_loopw[3,17] (WT U es) (fun _ i _=>es.length-(intOf i).toNat)
 case atStart=>exact⟨0,aQ _,rfl,Re,[],rfl,⟨aR,ri⟩,aR⟩
 case round =>
  obtain⟨k,hk,rfl,hF,fs,kx,cQ,B_⟩:=hrel;obtain⟨al,cl,SN⟩:=cQ.form;rw[ai]at SN;subst SN;clear akc Re ri akb aka;by_cases fk:k<es.length
  ·have dP:=HRW.o wr hF;rcases dP.2 with ⟨_,_,_,e,_⟩|⟨bk,o0,c,hf,g1,g2,g3,g4⟩
   ·have:es=[]:=by simpa using e
    subst this;exact absurd fk (cq _)
   ·rw[ai]at hf;cases hf;have hx:=List.getElem?_eq_getElem fk;generalize es[k]=x at hx;have iw:x∈es:=cj hx;have hr:wr.rangeAt bk (o0+k*28) (Iw x):=fun j v hj=>g4 k (Iw x) (by rw[List.getElem?_map,hx];rfl) j v hj;have HOX:=O (fun V (hV:Fr aS U V)=>HOP.o V hV x iw);obtain⟨ev,o,hs⟩:=x;have C5:=HOX.o wr hF;obtain⟨ah,ch,hh⟩:=C5.own.form;rw[ai]at hh;have rJ:hs.length<100000:=C5.fit.aJ.2.1
    have Mt:=O (show(es.take (k+1)).map (·.1)=(es.take k).map (·.1)++[ev]by rw[cC,hx];simp);obtain⟨y,hy⟩:∃y,y=Iw (ev,(o,hs)):=⟨_,rfl⟩;rw[<-hy]at hr;have hy':y=Tt ev.tab o ah hs.length ch ev.jy ev.ng ev.fin:=hy.trans (IG hh ev.op ev.jy ev.ng ev.fin);have HY:=O hy';have My:=O (show y.length=28 by rw[hy];rfl)
    have XO:=O (show∀u∈y,u.oneCell'=true by rw[hy,show Iw (ev,(o,hs))=Tt ev.tab o ah hs.length ch ev.jy ev.ng ev.fin from IG hh ev.op ev.jy ev.ng ev.fin];exact IH _ _ _ _ _ _ _ _);have HR:=O hr;have HHH:=O hh;have Hw:=O cQ;have ap_:=O B_;have HF:=O hF;have UT:=O kx;obtain⟨N,hN⟩:∃N,N=wr.heap.size:=⟨_,rfl⟩;have hUN:U.heap.size<=N:=by have:=hF.size;omega
    have Ji:=O (show(wr.alloc (.cells Ed 88)).heap[N]?=some (.cells Ed 88 (0,0))from by rw[hN];exact aC _ _);have HN:=O hN;have hke:k<es.length:=fk;clear dP hr hx hy hy' hh C5 cQ B_ hF kx hN g4;go_wp2_with (first
     |((with_reducible refine kE ⟨some 20,_,_,_,_,_⟩ ?_)
       refine a_ rfl 88 (.tmp 19) rfl bk (o0+k*28) rfl y _ HR.o underlying88 rfl (by rw[My.o];exact IU) ?_
       refine kH rfl 88 rfl (some 5) rfl Ed WU N HN.o.symm ?_
       refine aG rfl 88 (.tmp 5) (.tmp 20) rfl N y.toArray rfl rfl 88 Ed Ji.o (by rw[aZ,My.o];exact IU) (by have e:y.toArray.size=y.length:=rfl;rw[e,My.o];rfl) (aay XO.o) ?_
       have hFW:Fr aS U ((wr.alloc (.cells Ed 88)).setRow N y.toArray):=jc (HF.o.alloc _) hUN _
       have XW:Fr aS wr ((wr.alloc (.cells Ed 88)).setRow N y.toArray):=jc ((ae aS wr).alloc _) (by rw[HN.o];exact ay _) _
       have kW:((wr.alloc (.cells Ed 88)).setRow N y.toArray).heap[N]?=some (.cells y.toArray 88 (0,0)):=lS Ji.o
       generalize (wr.alloc (.cells Ed 88)).setRow N y.toArray=W1 at *
       have z12:W1.cell? ⟨N,12,none⟩=some (.slice ah hs.length ch):=by
         simp only[World.cell?,kW,HY.o]
         rfl
       have Jc:=O (show oD W1 (.slice ah hs.length ch) hs from by
         have q:=(HOX.o W1 hFW).fit.en
         rw[HHH.o]at q
         exact q)
       have hlw:U.heap.size<=W1.heap.size:=hFW.size)
     |(at_builtin
       refine zS rfl _ _ rfl U.heap.size _ [] rfl (dx _ _ _ _) _ (hs.map gY.cells) rfl Jc.o bH hlw ?_
       intro v9 w9 uN aai
       rw[List.nil_append]at uN
       obtain⟨a9,c9,hv9⟩:=uN.form
       rw[ai]at hv9
       subst hv9
       have Tr:Fr aS W1 w9:=fl (ae _ _) aai (fun k hk=>by cases hk)
       have k9:=Tr.keep kW id
       have z9:w9.cell? ⟨N,12,none⟩=some (.slice ah hs.length ch):=nQ z12 Tr id
       have z9f:w9.frozen? ⟨N,12,none⟩=false:=by simp[World.frozen?,k9])
     |((with_reducible refine kE ⟨some 30,_,_,_,_,_⟩ ?_)
       obtain⟨y2,W3,hy2,hW3,kW2,Ts,afb,ach,Mc,fq⟩:=aaz a9 c9 kQ HY.o k9 (XW.trans Tr) HN.o Hw.o
       have HY2:=O hy2
       have k9':=k9
       clear hy2 z12 z9 z9f k9
       rw[<-hW3]
       refine aI rfl 88 (.tmp 5) rfl N rfl _ y2.toArray (0,0) _ kW2 underlying88 rfl (by rw[aZ,afb];exact IU) ?_
       refine xC rfl 54 88 1 _ rfl (some 31) rfl y2.toArray i0 (.agg Ed) [(0,.agg y2.toArray)] (by simp only[eC,cD,dp];rfl) underlying54 qp o9 (by rw[kQ];decide) (by rw[kQ];decide) Mc W3.heap.size rfl ?_
       have hUW:U.heap.size<=W3.heap.size:=aF hlw (aF Tr.size Ts.size)
       clear Mc)
     |(at_builtin
       refine nJ rfl _ _ 54 88 rfl 28 328 (.agg Ed) underlying54 II rfl ag ag U.heap.size (.slice al fs.length cl) (fs.map Iw) rfl (fq.alloc _) W3.heap.size 1 y2 rfl afb ach (fun i u hi=>by rw[World.cell?_alloc_mark];simpa using hi) (by rw[ai];have q:=aq List.length UT.o;rw[ai,ai,aM]at q;omega) bH ?_
       intro v' w4 eZ BU)
     |fail)
    have Td:Fr (own (.slice al fs.length cl)) W3 w4:=fl ((ae (own (.slice al fs.length cl)) W3).alloc _) BU (fun k hk _=>hk);have YC:j_ U.heap.size w9 ({o with aJ:={o.aJ with en:=.slice a9 hs.length c9}},hs) ev.op:=by
     have q:=HOX.o w9 (hFW.trans Tr);exact⟨{q.fit with en:=uN.at},q.is,uN⟩
    have key:∀ {x:jz×List gY} {p:kl},j_ U.heap.size w9 x p->j_ U.heap.size w4 x p:=fun q=>by
     have q3:=q.one (k9') ag Ts;exact q3.rows (q3.own.fr Td fun b hb R2=>by
      obtain⟨c',XD⟩:=fq.Bt R2;exact q3.own.not XD ag hb)
    have aci:WT U es v' (.int .i64 ((k+1:Nat):Int)) w4:=by
     refine⟨k+1,ab,rfl,?_,fs++[(ev,({o with aJ:={o.aJ with en:=.slice a9 hs.length c9}},hs))],?_,?_,fun x hx=>?_⟩
     ·refine((hFW.trans Tr).step Ts (fun k hk e=>?_)).step Td (fun k hk e=>?_)
      ·have e':k=N:=e;omega
      ·have:=fq.block k e;omega
     ·rw[bG,UT.o,Mt.o];rfl
     ·rw[bG,cD,dp,show Iw (ev,({o with aJ:={o.aJ with en:=.slice a9 hs.length c9}},hs))=Tt ev.tab o a9 hs.length c9 ev.jy ev.ng ev.fin from IG (o:={o with aJ:={o.aJ with en:=.slice a9 hs.length c9}}) rfl ev.op ev.jy ev.ng ev.fin, <-HY2.o];exact eZ
     ·rcases bQ.1 hx with hx|hx
      ·exact key ((ap_.o x hx).kept (jh (XW.trans Tr)))
      ·rcases cZ.1 hx with rfl
       exact key YC
    have aqa:=O aci;clear aci key YC Td eZ BU fq Ts kW2 ach afb hW3;go_wp2;go_roundw
    case rel =>
     obtain⟨k',r1,r2,r3⟩:=aqa.o;exact⟨k',r1,r2.trans bC,r3⟩
    case measure=>simp[intOf];omega
  ·have HE:=O (show fs.map (·.1)=t.fJ by rw[kx,aD ab,HES.o]);have HO:=O cQ;have HP:=O B_;have Ub:=O hF;clear cQ B_ kx hF;go_wp2;go_ret;exact⟨_,rfl,⟨fs,HE.o,HO.o,HP.o⟩,Ub.o⟩
end
def tz.dS(m:tz):MvL:=⟨m.kind,m.tab,m.o.dS m.hs⟩
def rQ:bS:= #[.int .i64 0,.int .i64 0,.int .i64 0,.int .i64 0,.bool false,.string ⟨#[]⟩,.int .i64 0,.bool false,.string ⟨#[]⟩,.int .i64 0,.string ⟨#[]⟩,.string ⟨#[]⟩,.string ⟨#[]⟩,.slice none 0 0,.bool false,.string ⟨#[]⟩,.bool false,.string ⟨#[]⟩,.string ⟨#[]⟩,.string ⟨#[]⟩,.string ⟨#[]⟩,.int .i64 0,.bool false,.int .i64 0]
theorem Ad:(prog.info? 50).map (·.zero)=some (some (.agg rQ)):=af
theorem sN:(prog.info? 50).map (·.size)=some 24:=af
theorem OG(t:im)(m:MvL):(zQ t m).fJ.length<=t.fJ.length+1:=by
 unfold zQ;split
 ·rw[GJ];omega
 ·split
  ·rw[Sx];omega
  ·split
   ·exact Ei _ _
   ·omega
theorem fS.move(h:fS k t)(m:MvL)(ho:m.op.user.size<=5000/\m.op.pass.size<=5000/\m.op.path.size<=5000):fS (k+2) (zQ t m):=by
 unfold zQ;split
 ·exact(h.ng m.tab m.op ho).mono ab
 ·split
  ·exact(h.cancel m.tab).mono ab
  ·split
   ·exact h.step m.tab
   ·exact h.mono ab
theorem Mb(l:List MvL)(m:MvL):yp (l++[m])=zQ (yp l) m:=by unfold yp;simp
theorem Qh(l:List MvL)(ho:∀m∈l,m.op.user.size<=5000/\m.op.pass.size<=5000/\m.op.path.size<=5000):fS (2*l.length) (yp l)/\(yp l).fJ.length<=l.length:=by
 have key:∀k,k<=l.length->fS (2*(k:Int)) (yp (l.take k))/\(yp (l.take k)).fJ.length<=k:=by
  intro k
  induction k with
  |zero=>exact fun _=>⟨fS.new,ay _⟩
  |succ k ih =>
   intro hk;obtain⟨i1,i2⟩:=ih ab;have hx:=List.getElem?_eq_getElem (show k<l.length from ab);rw[cC,hx,Option.toList_some,Mb];refine⟨?_,?_⟩
   ·have:=i1.move (l[k]) (ho _ (bM _));rw[show(2*((k+1:Nat):Int))=2*(k:Int)+2 from ab];exact this
   ·have:=OG (yp (l.take k)) l[k];omega
 have:=key l.length (ay _);rw[List.take_length]at this;exact this
theorem Em(h:gB w o hs):(o.dS hs).user.size<=5000/\(o.dS hs).pass.size<=5000/\(o.dS hs).path.size<=5000:=⟨h.user,h.pass,by have:=h.path;show o.aJ.path.size<=5000;omega⟩
theorem GM(h:gB w o hs)(hT:w.heap.size<=T):hs≠ []->∀b,o.aJ.en.ownBlock=some b->b≠T:=by
 intro hne b hb;rcases h.en.2 with ⟨_,_,_,e,_⟩|⟨bk,o',c,e,_,_,hl,_⟩
 ·exact absurd (by simpa using e) hne
 ·rw[e]at hb;have hb':some bk=some b:=hb;cases hb';omega
section
variable {xw : Option (Nat × dN)} {a U U' : World} {T : Nat} {t : im}
def ae9(a:World)(T:Nat)(ms:List tz)(i:Value)(wr:World):Prop:=∃k:Nat,k<=ms.length/\i=.int .i64 k/\df none a wr T (yp ((ms.take k).map tz.dS))
theorem aax(hf:Fr aS a U){ms:List tz}(hm:wj a v ms)(hl:ms.length<1000)(ht:kC a) :
  aB 10 #[v] U fun e w'=>∃T,e=.returned (.pointer (some ⟨T,0,none⟩))/\df none a w' T (yp (ms.map tz.dS)):=by
 obtain⟨av,cv,hv⟩:=hm.rows.form;rw[ai]at hv;subst hv;have HM:=O hm;have z_:=O (fun k (hk:k<=ms.length)=>Qh ((ms.take k).map tz.dS) (fun m G3=>by
  obtain⟨x,hx,rfl⟩:=bZ.1 G3;exact Em (hm.fit x (ey hx))))
 have HN:=O (LV hf);clear hm hf;go_enter func10,ntmps10;go_wp2_with fail
 refine HN.o.mono ?_;rintro e u⟨T,rfl,h0, -⟩;clear HN;go_wp2;go_loopw[9] (ae9 a T ms) (fun i _=>ms.length-(intOf i).toNat)
 case atStart=>exact⟨0,aQ _,rfl,h0⟩
 case round =>
  obtain⟨k,hk,rfl,hT⟩:=hrel;clear h0;by_cases fk:k<ms.length
  ·have dP:=(HM.o.di hT.fr).rows;rcases dP.2 with ⟨_,_,_,e,_⟩|⟨bk,o0,c,hf,g1,g2,g3,g4⟩
   ·have:ms=[]:=by simpa using e
    subst this;exact absurd fk (cq _)
   ·rw[ai]at hf;cases hf;have hx:=List.getElem?_eq_getElem fk;generalize ms[k]=x at hx;have iw:x∈ms:=cj hx;have hr:wr.rangeAt bk (o0+k*24) x.cells:=fun j v hj=>g4 k x.cells (by rw[List.getElem?_map,hx];rfl) j v hj;have sR:=HM.o.fit x iw;obtain⟨kd,tb,o,hs⟩:=x;have HR:=O hr;obtain⟨y,hy⟩:∃y,y=tz.cells ⟨kd,tb,o,hs⟩:=⟨_,rfl⟩;obtain⟨ah,ch,hh⟩:=sR.gT;have My:=O (show y.length=24 by rw[hy];rfl)
    have XO:=O (show∀u∈y,u.oneCell'=true by
     rw[hy];intro u hu;rcases bB.1 hu with rfl|hu
     ·rfl
     ·rcases bB.1 hu with rfl|hu
      ·rfl
      ·exact P' o (by rw[hh];rfl) u hu)
    rw[<-hy]at HR;have Mt:=O (show yp ((ms.take (k+1)).map tz.dS)=zQ (yp ((ms.take k).map tz.dS)) ⟨kd,tb,o.dS hs⟩by rw[cC,hx,Option.toList_some,bG];exact Mb _ _);obtain⟨N,hN⟩:∃N,N=wr.heap.size:=⟨_,rfl⟩;have hUN:a.heap.size<=N:=by have:=hT.fr.size;omega
    have Ji:=O (show(wr.alloc (.cells rQ 50)).heap[N]?=some (.cells rQ 50 (0,0))from by rw[hN];exact aC _ _);have HN:=O hN;have HT:=O hT;have ap8:=O (fun V (hV:Fr aS a V)=>sR.di hV);have HOLD:=O (GM sR hT.low);have HNL:=O sR.aJ.2.1;have HY:=O hy;clear dP hr hx hy sR hT hN g4 hh;by_cases lW:kd=1
    ·as_aux_lemma =>
      subst lW;go_wp2_with (first
       |((with_reducible refine kE ⟨some 12,_,_,_,_,_⟩ ?_)
         refine a_ rfl 50 (.tmp 11) rfl bk (o0+k*24) rfl y _ HR.o underlying50 rfl (by rw[My.o];exact sN) ?_
         refine kH rfl 50 rfl (some 5) rfl rQ Ad N HN.o.symm ?_
         refine aG rfl 50 (.tmp 5) (.tmp 12) rfl N y.toArray rfl rfl 50 rQ Ji.o (by rw[aZ,My.o];exact sN) (by have e:y.toArray.size=y.length:=rfl;rw[e,My.o];rfl) (bW XO.o) ?_
         have XW:Fr aS wr ((wr.alloc (.cells rQ 50)).setRow N y.toArray):=jc ((ae aS wr).alloc _) (by rw[HN.o];exact ay _) _
         have kW:((wr.alloc (.cells rQ 50)).setRow N y.toArray).heap[N]?=some (.cells y.toArray 50 (0,0)):=lS Ji.o
         generalize (wr.alloc (.cells rQ 50)).setRow N y.toArray=W1 at *
         have z0:W1.cell? ⟨N,0,none⟩=some (.int .i64 1):=by
           simp only[World.cell?,kW,HY.o]
           rfl
         have z1:W1.cell? ⟨N,1,none⟩=some (.int .i64 tb):=by
           simp only[World.cell?,kW,HY.o]
           rfl
         have ob:W1.rangeAt N 2 o.cells:=by
           have q:=BM kW
           rw[HY.o]at q
           exact kG (p:=[_,_]) (q:=o.cells) (r:=[]) (by rw[dR];exact q)
         have hT1:=HT.o.di XW)
       |((with_reducible refine dk 21 ?_);refine a_ rfl 33 (.tmp 20) rfl N 2 rfl o.cells _ ob underlying33 rfl af ?_)
       |fail)
      have HB:=O (Bb hT1 tb o hs (k:=2*(ms.length:Int)) ab (by
       have q:=(z_.o k hk).1;rw[ai,aM]at q;exact q.mono ab) (ap8.o _ hT1.fr) HOLD.o HNL.o)
      refine HB.o.mono ?_;rintro e w5⟨rfl,p1, -⟩;have HP:=O p1;clear p1;go_wp2;go_roundw
      case rel=>exact⟨k+1,ab,bg,by rw[Mt.o];exact HP.o⟩
      case measure=>simp[intOf];omega
    ·by_cases rS:kd=2
     ·as_aux_lemma =>
       subst rS;go_wp2_with (first
        |((with_reducible refine kE ⟨some 12,_,_,_,_,_⟩ ?_)
          refine a_ rfl 50 (.tmp 11) rfl bk (o0+k*24) rfl y _ HR.o underlying50 rfl (by rw[My.o];exact sN) ?_
          refine kH rfl 50 rfl (some 5) rfl rQ Ad N HN.o.symm ?_
          refine aG rfl 50 (.tmp 5) (.tmp 12) rfl N y.toArray rfl rfl 50 rQ Ji.o (by rw[aZ,My.o];exact sN) (by have e:y.toArray.size=y.length:=rfl;rw[e,My.o];rfl) (bW XO.o) ?_
          have XW:Fr aS wr ((wr.alloc (.cells rQ 50)).setRow N y.toArray):=jc ((ae aS wr).alloc _) (by rw[HN.o];exact ay _) _
          have kW:((wr.alloc (.cells rQ 50)).setRow N y.toArray).heap[N]?=some (.cells y.toArray 50 (0,0)):=lS Ji.o
          generalize (wr.alloc (.cells rQ 50)).setRow N y.toArray=W1 at *
          have z0:W1.cell? ⟨N,0,none⟩=some (.int .i64 2):=by
            simp only[World.cell?,kW,HY.o]
            rfl
          have z1:W1.cell? ⟨N,1,none⟩=some (.int .i64 tb):=by
            simp only[World.cell?,kW,HY.o]
            rfl
          have ob:W1.rangeAt N 2 o.cells:=by
            have q:=BM kW
            rw[HY.o]at q
            exact kG (p:=[_,_]) (q:=o.cells) (r:=[]) (by rw[dR];exact q)
          have hT1:=HT.o.di XW)
        |fail)
       have HB:=O (yr hT1 tb (k:=2*(ms.length:Int)) ab (by
        have q:=(z_.o k hk).1;rw[ai,aM]at q;exact q.mono ab))
       refine HB.o.mono ?_;rintro e w5⟨rfl,p1, -⟩;have HP:=O p1;clear p1;go_wp2;go_roundw
       case rel=>exact⟨k+1,ab,bg,by rw[Mt.o];exact HP.o⟩
       case measure=>simp[intOf];omega
     ·by_cases QD:kd=0
      ·as_aux_lemma =>
        subst QD;go_wp2_with (first
         |((with_reducible refine kE ⟨some 12,_,_,_,_,_⟩ ?_)
           refine a_ rfl 50 (.tmp 11) rfl bk (o0+k*24) rfl y _ HR.o underlying50 rfl (by rw[My.o];exact sN) ?_
           refine kH rfl 50 rfl (some 5) rfl rQ Ad N HN.o.symm ?_
           refine aG rfl 50 (.tmp 5) (.tmp 12) rfl N y.toArray rfl rfl 50 rQ Ji.o (by rw[aZ,My.o];exact sN) (by have e:y.toArray.size=y.length:=rfl;rw[e,My.o];rfl) (bW XO.o) ?_
           have XW:Fr aS wr ((wr.alloc (.cells rQ 50)).setRow N y.toArray):=jc ((ae aS wr).alloc _) (by rw[HN.o];exact ay _) _
           have kW:((wr.alloc (.cells rQ 50)).setRow N y.toArray).heap[N]?=some (.cells y.toArray 50 (0,0)):=lS Ji.o
           generalize (wr.alloc (.cells rQ 50)).setRow N y.toArray=W1 at *
           have z0:W1.cell? ⟨N,0,none⟩=some (.int .i64 0):=by
             simp only[World.cell?,kW,HY.o]
             rfl
           have z1:W1.cell? ⟨N,1,none⟩=some (.int .i64 tb):=by
             simp only[World.cell?,kW,HY.o]
             rfl
           have ob:W1.rangeAt N 2 o.cells:=by
             have q:=BM kW
             rw[HY.o]at q
             exact kG (p:=[_,_]) (q:=o.cells) (r:=[]) (by rw[dR];exact q)
           have hT1:=HT.o.di XW)
         |fail)
        have HB:=O (LX hT1 tb (k:=2*(ms.length:Int)) ab (by
         have q:=(z_.o k hk).1;rw[ai,aM]at q;exact q.mono ab) (by
         have q:=(z_.o k hk).2;rw[ai,aM]at q;omega) ht)
        refine HB.o.mono ?_;rintro e w5⟨rfl,p1, -⟩;have HP:=O p1;clear p1;go_wp2;go_roundw
        case rel=>exact⟨k+1,ab,bg,by rw[Mt.o];exact HP.o⟩
        case measure=>simp[intOf];omega
      ·as_aux_lemma =>
        have V_:=O (show zQ (yp ((ms.take k).map tz.dS)) ⟨kd,tb,o.dS hs⟩=yp ((ms.take k).map tz.dS)by unfold zQ;rw[ar lW,ar rS,ar QD]);go_wp2_with (first
         |((with_reducible refine kE ⟨some 12,_,_,_,_,_⟩ ?_)
           refine a_ rfl 50 (.tmp 11) rfl bk (o0+k*24) rfl y _ HR.o underlying50 rfl (by rw[My.o];exact sN) ?_
           refine kH rfl 50 rfl (some 5) rfl rQ Ad N HN.o.symm ?_
           refine aG rfl 50 (.tmp 5) (.tmp 12) rfl N y.toArray rfl rfl 50 rQ Ji.o (by rw[aZ,My.o];exact sN) (by have e:y.toArray.size=y.length:=rfl;rw[e,My.o];rfl) (bW XO.o) ?_
           have XW:Fr aS wr ((wr.alloc (.cells rQ 50)).setRow N y.toArray):=jc ((ae aS wr).alloc _) (by rw[HN.o];exact ay _) _
           have kW:((wr.alloc (.cells rQ 50)).setRow N y.toArray).heap[N]?=some (.cells y.toArray 50 (0,0)):=lS Ji.o
           generalize (wr.alloc (.cells rQ 50)).setRow N y.toArray=W1 at *
           have z0:W1.cell? ⟨N,0,none⟩=some (.int .i64 kd):=by
             simp only[World.cell?,kW,HY.o]
             rfl
           have z1:W1.cell? ⟨N,1,none⟩=some (.int .i64 tb):=by
             simp only[World.cell?,kW,HY.o]
             rfl
           have ob:W1.rangeAt N 2 o.cells:=by
             have q:=BM kW
             rw[HY.o]at q
             exact kG (p:=[_,_]) (q:=o.cells) (r:=[]) (by rw[dR];exact q)
           have hT1:=HT.o.di XW)
         |fail)
        have HP:=O hT1;go_roundw
        case rel=>exact⟨k+1,ab,bg,by rw[Mt.o,V_.o];exact HP.o⟩
        case measure=>simp[intOf];omega
  ·have HE:=O (show(ms.take k).map tz.dS=ms.map tz.dS by rw[aD ab]);have HT:=O hT;clear hT;go_wp2;go_ret;rw[HE.o]at HT;exact⟨T,rfl,HT.o⟩
end
def OH:kl:=⟨10,0,tP,tP,⟨#[47]⟩,⟨#[]⟩,⟨#[71,69,84]⟩,[],false,⟨#[]⟩,false,⟨#[]⟩,⟨#[]⟩,⟨#[]⟩,⟨#[]⟩,0,false,7⟩
def aaA:jz:=⟨10,⟨0,tP,tP,⟨#[47]⟩,⟨#[]⟩,⟨#[71,69,84]⟩,.slice none 0 0,false,⟨#[]⟩⟩,false,⟨#[]⟩,⟨#[]⟩,⟨#[]⟩,⟨#[]⟩,0,false,7⟩
def akd:bS:= #[.int .i64 10,.int .i64 0,.bool true,.string ⟨#[97,46,116,101,115,116]⟩,.int .i64 443,.bool true,.string ⟨#[97,46,116,101,115,116]⟩,.int .i64 443,.string ⟨#[47]⟩,.string ⟨#[]⟩,.string ⟨#[71,69,84]⟩,.slice none 0 0,.bool false,.string ⟨#[]⟩,.bool false,.string ⟨#[]⟩,.string ⟨#[]⟩,.string ⟨#[]⟩,.string ⟨#[]⟩,.int .i64 0,.bool false,.int .i64 7]
theorem afc:aaA.dS []=OH:=rfl
theorem afd:aaA.cells.toArray=akd:=rfl
theorem aaB(w:World):gB w aaA [] :=
 ⟨dV.nil _ _,⟨ag,ag,fun _ h=>by cases h⟩,ag,ag,ag,ag,ag,ag,ag,ag,ag,ag,ag,ag,ag,ag,ag,ag⟩
def rZ:Nat->im
 |0=>(yo xy 2 OH).1
 |k+1=>(kZ (rZ k) 2).1
theorem aaC:(yo xy 2 OH).2=0:=af
theorem aqb:(kZ (rZ 0) 2).2=(rep 0,false,0):=af
theorem aqc:(kZ (rZ 1) 2).2=(rep 0,false,0):=af
theorem aqd:(kZ (rZ 2) 2).2=(⟨1,⟨#[]⟩,0⟩,true,0):=af
theorem Sy:(rZ 3).fJ.length=1:=af
theorem aaD:(rZ 3).w.now=7:=af
theorem Ae(k:Nat):fS (1+2*(k:Int)) (rZ k)/\(rZ k).fJ.length<=k:=by
 induction k with
 |zero=>exact⟨(fS.new.ng 2 OH ⟨ag,ag,ag⟩).mono ab,by show(yo xy 2 OH).1.fJ.length<=0;rw[GJ];exact ay _⟩
 |succ k ih =>
  refine⟨(ih.1.step 2).mono ab,?_⟩;have:=Ei (rZ k) 2;have:=ih.2;show(kZ (rZ k) 2).1.fJ.length<=k+1;omega
def afe(a:World)(T:Nat)(i:Value)(wr:World):Prop:=∃k:Nat,k<=2/\i=.int .i64 k/\df none a wr T (rZ k)
theorem aff(k:Nat)(i:Nat)(h:((rZ k).tab i).does=2)(hk:k<=2):((rZ k).tab i).op=OH:=by
 rcases(show k=0\/k=1\/k=2 from ab)with rfl|rfl|rfl
 ·by_cases e:i=2
  ·subst e;exact absurd h dt
  ·exfalso;have e':¬i=(2:Int).toNat:=e;have:((rZ 0).tab i).does=0:=by
    show((if i=(2:Int).toNat then _ else fW:w_)).does=0;rw[ar e'];rfl
   omega
 ·by_cases e:i=2
  ·subst e;rfl
  ·exfalso;have e':¬i=(2:Int).toNat:=e;have:((rZ 1).tab i).does=0:=by
    show((if i=(2:Int).toNat then _ else(if i=(2:Int).toNat then _ else fW):w_)).does=0;rw[ar e',ar e'];rfl
   omega
 ·by_cases e:i=2
  ·subst e;exact absurd h dt
  ·exfalso;have e':¬i=(2:Int).toNat:=e;have:((rZ 2).tab i).does=0:=by
    show((if i=(2:Int).toNat then _ else(if i=(2:Int).toNat then _ else(if i=(2:Int).toNat then _ else fW)):w_)).does=0;rw[ar e',ar e',ar e'];rfl
   omega
theorem Sz:OH.right=true:=af
theorem Eo{k:Nat}(hk:k<=2)(ht:kC a)(h:df none a w T (rZ k)):aB 13 #[.pointer (some ⟨T,0,none⟩),.int .i64 2] w (qj none a w T (kZ (rZ k) 2)) :=
 LW h 2 (k:=1+2*(k:Int)) ab (Ae k).1 (by have:=(Ae k).2;omega) fun i _ hd V B pv o hs ho hw hf sR=>by
  have e:=aff k i hd hk;have:=P_ a.heap.size V B pv _ o hs hw sR ((Ae k).1.seen i (Or.inl hd)) a ht (ay _) hf (by rw[ho,e];exact Sz) (by
   have:=aq kl.what (ho.trans e);exact this)
  rw[ho]at this;exact this
theorem Me(a U:World)(hf:Fr aS a U)(ht:kC a):aB 6 #[] U fun e w'=>e=.returned (.bool true)/\Fr aS a w':=by
 have HT:=O ht;have HN:=O (LV hf);clear ht hf;go_enter func6,ntmps6;go_wp2_with fail
 refine HN.o.mono ?_;rintro e u⟨T,rfl,h0, -⟩;have H0:=O h0;clear HN h0;go_wp2_with fail
 refine(zI u).mono ?_;rintro e u1⟨rfl,dn⟩;unfold gq.cells tP;go_wp2_with fail
 refine(zI u1).mono ?_;rintro e u2⟨rfl,dz⟩;unfold gq.cells tP;have hb:=Bb (H0.o.di (dn.trans dz)) 2 aaA [] (k:=0) ag fS.new (aaB u2) (fun h=>absurd rfl h) ag;rw[afc,afd,aaC]at hb;unfold akd xa at hb;rw[aA rfl]at hb;have HB:=O hb;clear hb H0 dn dz;go_wp2_with fail
 refine HB.o.mono ?_;rintro e u3⟨rfl,h3, -⟩;have H3:=O (show df none a u3 T (rZ 0)from h3);clear h3 HB;go_wp2;go_loopw[21] (afe a T) (fun i _=>2-(intOf i).toNat)
 case atStart=>exact⟨0,ab,rfl,H3.o⟩
 case round =>
  obtain⟨k,hk,rfl,hT⟩:=hrel;clear H3;rcases(show k=0\/k=1\/k=2 from ab)with rfl|rfl|rfl
  ·have hs:=Eo ag HT.o hT;unfold qj at hs;rw[aqb]at hs;have HS:=O hs;clear hs hT;go_wp2_with fail
   refine HS.o.mono ?_;rintro e u4⟨rfl,h4, -⟩;have H4:=O (show df none a u4 T (rZ 1)from h4);clear h4 HS;unfold rep xa;go_wp2;go_roundw
   case rel=>exact⟨1,ab,bg,H4.o.di ((ae aS u4).alloc _)⟩
   case measure=>simp[intOf]
  ·have hs:=Eo ag HT.o hT;unfold qj at hs;rw[aqc]at hs;have HS:=O hs;clear hs hT;go_wp2_with fail
   refine HS.o.mono ?_;rintro e u4⟨rfl,h4, -⟩;have H4:=O (show df none a u4 T (rZ 2)from h4);clear h4 HS;unfold rep xa;go_wp2;go_roundw
   case rel=>exact⟨2,ab,bg,H4.o.di ((ae aS u4).alloc _)⟩
   case measure=>simp[intOf]
  ·have hs:=Eo ag HT.o hT;unfold qj at hs;rw[aqd]at hs;have HS:=O hs;clear hs hT;go_wp2_with fail
   refine HS.o.mono ?_;rintro e u4⟨rfl,h4, -⟩;have H4:=O (show df none a u4 T (rZ 3)from h4);clear h4 HS;unfold xa;go_wp2_with fail
   have h5:=H4.o.di ((ae aS u4).alloc (.cells #[.int .i64 1,.string ⟨#[]⟩,.int .i64 0] 46));have H5:=O h5;have l_:=O (wS h5 (by have:=(Ae 3).2;omega));clear h5 H4;refine l_.o.mono ?_;rintro e u5⟨sv,rfl,RS,lL⟩;obtain⟨es,e1,e2, -⟩:=RS;obtain⟨asv,csv,Wt⟩:=e2.form;have Zu:es.length=1:=by
    have:=aq List.length e1;rw[ai,Sy]at this;exact this
   rw[ai,Zu]at Wt;subst Wt;have h6:=H5.o.di lL;have HW:=O (wR h6 (Ae 3).1.inv);have yy:=O h6.fr;clear e1 e2 Zu lL h6 H5 l_;go_wp2_with fail
   refine HW.o.mono ?_;rintro e u6⟨C,qv,rfl,hc,nz, -⟩;have HN:=O (En _ _ _ _ _ hc);rw[aaD]at HN;have Jb:=O (yy.o.trans nz);clear hc nz HW;go_wp2_with fail
   refine HN.o.mono ?_;rintro e u7⟨rfl,rfl⟩;go_wp2;go_ret;exact⟨rfl,Jb.o⟩
theorem yw.di{w':World}{ms:List tz}(h:yw w v ms)(hf:Fr aS w w'):yw w' v ms:=⟨bh h.1 hf,h.2.1,fun m hm=>(h.2.2 m hm).di hf⟩
def mvT(ms:List tz):im:=yp (ms.map tz.dS)
theorem afk{ms:List tz}(h:wj w v ms)(hl:ms.length<=150):fS 300 (mvT ms)/\(mvT ms).fJ.length<=150:=by
 have:=Qh (ms.map tz.dS) (fun m hm=>by
  obtain⟨x,hx,rfl⟩:=bZ.1 hm;exact Em (h.fit x hx))
 rw[ai]at this;exact⟨this.1.mono ab,by have:=this.2;unfold mvT;omega⟩
structure akk (u:World) (bk o c:Nat) (es:List (P7×(jz×List gY))):Prop where
 cell:∀V,Fr aS u V->∀(j:Nat) x,es[j]?=some x->∀(i:Nat) v,(Iw x)[i]?=some v->V.cell? ⟨bk,o+j*28+i,none⟩=some v
 op:∀V,Fr aS u V->∀x∈es,gB V x.2.1 x.2.2
 is:∀x∈es,x.2.1.dS x.2.2=x.1.op
theorem ph.open{u:World}{sv:Value}{l:List P7}(h:ph base u sv l):∃(es:List (P7×(jz×List gY))) (av:eQ) (c:Nat),es.map (·.1)=l/\sv=.slice av es.length c/\(es=[]\/∃bk o,av=some ⟨bk,o,none⟩/\akk u bk o c es):=by
 obtain⟨es,e1,e2,e3⟩:=h;obtain⟨av,c,hv⟩:=e2.form;rw[ai]at hv;refine⟨es,av,c,e1,hv,?_⟩;rcases e2.at.2 with ⟨_,_,_,e,_⟩|⟨bk,o,c',hf,g1,g2,g3,g4⟩
 ·exact Or.inl (by simpa using e)
 ·rw[hv]at hf;injection hf with f1 f2 f3
  refine Or.inr ⟨bk,o,f1,fun V hV j x hx i v hi=>?_,fun V hV x hx=>(e3 x hx).fit.di hV,fun x hx=>(e3 x hx).is⟩;exact nQ (g4 j (Iw x) (by rw[List.getElem?_map,hx];rfl) i v hi) hV id
section
variable {xw : Option (Nat × dN)} {a U U' : World} {T : Nat} {t : im}
theorem df.aqq{qv:Nat->cU}(h:df none a U T t)(hf:Fr aS U U')(hc:cE a.heap.size U' C qv y)(hn:∀j,lJ C qv j->U.heap.size<=j):df (some (C,y)) a U' T t:=by
 obtain⟨B,g,sv,sb,h1,h2,h3,h4⟩:=h.ex;refine⟨⟨B,g,sv,sb,h1.fr hf id,(h2.add hf (i:=7) hc hn).sub fun i p hp=>?_,h3.kept (jh hf),fun n Rc=>⟨fun hd=>((h4 n Rc).1 hd).kept (jh hf),(h4 n Rc).2⟩⟩,h.low,h.fr.trans hf⟩;unfold oU at hp ⊢;by_cases e7:i=7
 ·subst e7;rw[aA rfl];simpa using hp
 ·rw[ar e7];by_cases e6:i=6
  ·rw[aA e6]at hp ⊢;exact hp
  ·rw[ar e6,ar e7]at hp ⊢;exact hp
theorem df.beside(h:df (some (C,y)) a U T t):∃pv,cE a.heap.size U C pv y:=by
 obtain⟨B,g,sv,sb,h1,h2,h3,h4⟩:=h.ex;exact h2.at (i:=7) (B:=C) (x:=y) rfl
theorem BP(h:df (some (C,y)) a U T t){D:Nat}{qv:Nat->cU}(hD:cE a.heap.size U D qv t.w)(hy:y=t.w)(Cn:xu t.w) :
  aB 18 #[.pointer (some ⟨C,0,none⟩),.pointer (some ⟨D,0,none⟩)] U fun e w'=>e=.returned (.bool true)/\Fr aS U w':=by
 obtain⟨pv,hw⟩:=h.beside;rw[hy]at hw;exact Fc hw hD Cn
end
structure Be (t u:im) (i:Nat) (k:Int):Prop where
 d:1<=(u.tab i).does
 w:u.w=t.w
 s:u.fJ=t.fJ
 qZ:fS k u
theorem Be.old(h:(t.tab i).does≠0)(hf:fS k t):Be t t i (k+1):=⟨ab,rfl,rfl,hf.mono ab⟩
theorem Be.new(hi:i<6)(o:kl)(h0:(t.tab i).does=0)(hf:fS k t)(ho:o.user.size<=5000/\o.pass.size<=5000/\o.path.size<=5000):(yo t i o).2=0/\Be t (yo t i o).1 i (k+1):=by
 have BZ:=hf.ng i o ho;rw[aaH o hi h0]at BZ ⊢;refine⟨rfl,?_,rfl,rfl,BZ⟩;show 1<=((t.put i _).tab i).does;rw[mH];exact ay 1
theorem Be.step(h:Be t u i k)(hi:i<6)(h3:(u.tab i).does≠3):(kZ u i).2.2.2=0/\Be t (kZ u i).1 i (k+2):=by
 have hd:=h.d;have h4:=h.qZ.does i;have BZ:=h.qZ.step i;rw[Xg hi ab]at BZ ⊢;obtain⟨q1,q2,q3⟩:=OB (t:=u) (n:=i) ab;exact⟨rfl,by show 1<=((stepT u i).1.tab i).does;omega,q1.trans h.w,q2.trans h.s,BZ⟩
theorem Be.leave(h:Be t u i k)(hi:i<6):(kP u i).2=0/\(kP u i).1.w=t.w/\(kP u i).1.fJ=t.fJ/\((kP u i).1.tab i).does=0/\lI (kP u i).1.w:=by
 have hd:=h.d;have BZ:=(h.qZ.cancel i).inv;rw[aaI hi ab]at BZ ⊢;refine⟨rfl,h.w,h.s,?_,BZ⟩;show((u.put i fW).tab i).does=0;rw[mH];rfl
def aft(a:World)(C T:Nat)(t:im)(i:Nat)(W:World):Prop:=∃u,df (some (C,t.w)) a W T u/\Be t u i 301
def afu(a:World)(C T:Nat)(t:im)(i p:Nat)(iv:Value)(W:World):Prop:=∃k:Nat,k<=p/\iv=.int .i64 k/\∃u,df (some (C,t.w)) a W T u/\Be t u i (301+2*(k:Int))
theorem Eu(v:Value)(ms:List tz)(n steps:Int)(o:jz)(hs:List gY)(w:World)(st0:yw w v ms)(st1:sM w o hs)(pw:xn w)(md:uj w)(sh:uk w)(db:oI w 9 .u8 SY) :
  aB 4 #[v,.int .i64 n,.int .i64 steps,.agg o.cells.toArray] w fun e w'=>e=.returned (.bool true)/\Below w.heap.size w w':=by
 have ht:kC w:=⟨⟨db,md,sh⟩,pw⟩;obtain⟨ah,ch,gD⟩:=dI st1.aJ.en;rw[ai]at gD;obtain⟨w0,VL⟩:∃w0,w0=w.alloc (.cells o.cells.toArray 33):=⟨_,rfl⟩;have oW:Fr aS w w0:=by rw[VL];exact(ae aS w).alloc _
 have k0:w0.heap[w.heap.size]?=some (.cells o.cells.toArray 33 (0,0)):=by rw[VL];exact aC _ _
 have HT:=O ht;have lu:=O gD;have EC:=O oW;have HA1:=O st1;have l_:=O st0
 have HKO:=O (show∀U,Fr aS w0 U->U.heap[w.heap.size]?=some (.cells #[.int .i64 o.what,.int .i64 o.aJ.part,.bool o.aJ.cW.aE,.string o.aJ.cW.host,.int .i64 o.aJ.cW.port,.bool o.aJ.o.aE,.string o.aJ.o.host,.int .i64 o.aJ.o.port,.string o.aJ.path,.string o.aJ.query,.string o.aJ.method,.slice ah hs.length ch,.bool o.aJ.fN,.string o.aJ.body,.bool o.proxy,.string o.text,.string o.user,.string o.pass,.string o.bK,.int .i64 o.cert,.bool o.all,.int .i64 o.n] 33 (0,0))from fun U hU=>by
  have q:=hU.keep k0 id
  rwa [dZ gD]at q)
 have SL:=O (show∀U n t,Fr aS w U->U.heap[n]?=some (.cells #[.int .i64 o.what,.int .i64 o.aJ.part,.bool o.aJ.cW.aE,.string o.aJ.cW.host,.int .i64 o.aJ.cW.port,.bool o.aJ.o.aE,.string o.aJ.o.host,.int .i64 o.aJ.o.port,.string o.aJ.path,.string o.aJ.query,.string o.aJ.method,.slice ah hs.length ch,.bool o.aJ.fN,.string o.aJ.body,.bool o.proxy,.string o.text,.string o.user,.string o.pass,.string o.bK,.int .i64 o.cert,.bool o.all,.int .i64 o.n] t (0,0))->aB 8 #[.slice (some ⟨n,0,none⟩) 1 1] U fun e w'=>e=.returned (.bool (!qk (o,hs)))/\Fr aS U w' from fun U n t hU hb=>by
  have h:=Mg _ [(o,hs)] U (El.one (st1.fr hU) gD (by rw[dZ gD];exact hb));rw[GN]at h;exact h)
 have xF:=O (Me w0 w0 (ae _ _) (ht.fr oW));rw[dZ gD]at VL ⊢;have HW0:=O VL;clear VL gD oW k0 st0 st1 ht pw md sh db;go_enter func4,ntmps4;go_wp2_with fail
 rw[<-HW0.o];refine xF.o.mono ?_;rintro e y1⟨rfl,h1⟩;have H1:=O h1;have HLV:=O (SJ y1 (HT.o.fr (EC.o.trans h1)));clear h1 xF;go_wp2_with fail
 refine HLV.o.mono ?_;rintro e y2⟨rfl,h2⟩;have H2:=O (H1.o.trans h2);have HM:=O (SE v ms y2 (l_.o.di (EC.o.trans H2.o)));clear h2 H1 HLV;go_wp2_with fail
 refine HM.o.mono ?_;rintro e y3⟨rfl,h3⟩;have H3:=O (H2.o.trans h3);have Jl:=O (HKO.o _ H3.o);clear h3 H2 HM;cases hm:wm ms
 ·clear hm;go_wp2;go_ret;exact⟨rfl,(EC.o.trans H3.o).pj⟩
 have V_:=O hm;clear hm
 go_wp2_with (first|((with_reducible refine dk 25 ?_);refine tT bC 33 (.tmp 7) rfl w.heap.size rfl _ #[.int .i64 o.what,.int .i64 o.aJ.part,.bool o.aJ.cW.aE,.string o.aJ.cW.host,.int .i64 o.aJ.cW.port,.bool o.aJ.o.aE,.string o.aJ.o.host,.int .i64 o.aJ.o.port,.string o.aJ.path,.string o.aJ.query,.string o.aJ.method,.slice ah hs.length ch,.bool o.aJ.fN,.string o.aJ.body,.bool o.proxy,.string o.text,.string o.user,.string o.pass,.string o.bK,.int .i64 o.cert,.bool o.all,.int .i64 o.n] (0,0) _ Jl.o underlying33 rfl af ?_)|fail)
 obtain⟨y4,hy4⟩:∃y4,y4=y3.alloc (.cells #[.int .i64 o.what,.int .i64 o.aJ.part,.bool o.aJ.cW.aE,.string o.aJ.cW.host,.int .i64 o.aJ.cW.port,.bool o.aJ.o.aE,.string o.aJ.o.host,.int .i64 o.aJ.o.port,.string o.aJ.path,.string o.aJ.query,.string o.aJ.method,.slice ah hs.length ch,.bool o.aJ.fN,.string o.aJ.body,.bool o.proxy,.string o.text,.string o.user,.string o.pass,.string o.bK,.int .i64 o.cert,.bool o.all,.int .i64 o.n] 33):=⟨_,rfl⟩
 have kD:Fr aS y3 y4:=by rw[hy4];exact(ae _ _).alloc _
 have H4:=O (H3.o.trans kD)
 have tK:=aC y3 (.cells #[.int .i64 o.what,.int .i64 o.aJ.part,.bool o.aJ.cW.aE,.string o.aJ.cW.host,.int .i64 o.aJ.cW.port,.bool o.aJ.o.aE,.string o.aJ.o.host,.int .i64 o.aJ.o.port,.string o.aJ.path,.string o.aJ.query,.string o.aJ.method,.slice ah hs.length ch,.bool o.aJ.fN,.string o.aJ.body,.bool o.proxy,.string o.text,.string o.user,.string o.pass,.string o.bK,.int .i64 o.cert,.bool o.all,.int .i64 o.n] 33)
 rw[<-hy4]at tK ⊢;clear hy4 kD;refine(SL.o _ _ _ (EC.o.trans H4.o) tK).mono ?_;rintro e y5⟨rfl,h5⟩;have H5:=O (H4.o.trans h5);clear h5 tK SL Jl;cases hbg:qk (o,hs)
 case true =>
  clear hbg;go_wp2;go_ret;exact⟨rfl,(EC.o.trans H5.o).pj⟩
 have HFT:=O (show∀U,Fr aS w U->gB U o hs from fun U hU=>gB.aki (HA1.o.fr hU) hbg);have HPK:=O (Ml n 6 y5 ag ag);obtain⟨i,hi,hi6⟩:∃i:Nat,Ah n 6=(i:Int)/\i<6:=by
  have q:=wA n 6 ag;exact⟨(Ah n 6).toNat,ab,ab⟩
 rw[hi]at HPK;clear hbg hi;go_wp2_with fail
 refine HPK.o.mono ?_;rintro e y6⟨rfl,rfl⟩;obtain⟨sR,hlen⟩:=wj.of (l_.o.di (EC.o.trans H5.o)) V_.o;obtain⟨qZ,M4⟩:=afk sR hlen;have z_:=O qZ;have HRN:=O (aax (ae aS y5) sR ab (HT.o.fr (EC.o.trans H5.o)));clear sR hlen qZ HPK V_ l_;go_wp2_with fail
 refine HRN.o.mono ?_;rintro e y7⟨T,rfl,h7⟩;have H7:=O (show df none y5 y7 T (mvT ms)from h7);have HSL:=O M4;generalize mvT ms=t at *
 have HWC:=O (wR H7.o z_.o.inv);go_wp2_with fail
 refine HWC.o.mono ?_;rintro e y8⟨C,qv,rfl,hC,ru,hn8⟩;have H8:=O (H7.o.aqq ru hC hn8);have HSY:=O (wS H8.o (show t.fJ.length<1000000 by have:=HSL.o;omega));clear hC ru hn8 HWC H7;go_wp2_with fail
 refine HSY.o.mono ?_;rintro e y9⟨sv,rfl,RS,SZ⟩;obtain⟨es,av,c,Mn,rfl, -⟩:=RS.open;obtain⟨L,hL⟩:∃L,L=t.fJ.length:=⟨_,rfl⟩;have Zu:es.length=L:=by have:=aq List.length Mn;rwa [ai, <-hL]at this
 rw[Zu];have HL:=O hL;have H9:=O (H8.o.di SZ);have HDS:=O (Qj H9.o i hi6);clear RS SZ Mn HSY H8 Zu hL
 go_upto_region 10 with fail
 go_cut [51]from 41 to 51 (fun s51 W=>s51=.bool false/\aft y5 C T t i W)
 case first =>
  go_wp2_with fail
  refine HDS.o.mono ?_;rintro e y10⟨rfl,rfl⟩;clear HDS;by_cases hd:(t.tab i).does=0
  ·have sF:(((t.tab i).does:Nat):Int)=0:=ab;have HB9:=O (HKO.o _ (H5.o.trans H9.o.fr));have hbg:=Bb H9.o (i:Int) o hs (k:=300) ag z_.o (HFT.o _ ((EC.o.trans H5.o).trans H9.o.fr)) (GM (HFT.o _ (EC.o.trans H5.o)) H9.o.low) (HFT.o _ (EC.o.trans H5.o)).aJ.2.1;have Ra:=Be.new hi6 (o.dS hs) hd z_.o (Em (HFT.o _ (EC.o.trans H5.o)));rw[dZ lu.o,Ra.1,show xa 0=Value.nilIface from rfl]at hbg;have HBG:=O hbg
   have HNW:=O Ra.2;clear hbg Ra hd;go_wp2_with (first
    |((with_reducible refine dk 48 ?_);refine tT bC 33 (.tmp 7) rfl w.heap.size rfl _ #[.int .i64 o.what,.int .i64 o.aJ.part,.bool o.aJ.cW.aE,.string o.aJ.cW.host,.int .i64 o.aJ.cW.port,.bool o.aJ.o.aE,.string o.aJ.o.host,.int .i64 o.aJ.o.port,.string o.aJ.path,.string o.aJ.query,.string o.aJ.method,.slice ah hs.length ch,.bool o.aJ.fN,.string o.aJ.body,.bool o.proxy,.string o.text,.string o.user,.string o.pass,.string o.bK,.int .i64 o.cert,.bool o.all,.int .i64 o.n] (0,0) _ HB9.o underlying33 rfl af ?_)
    |fail)
   refine HBG.o.mono ?_;rintro e y12⟨rfl,h12, -⟩;have H12:=O h12;clear h12 HBG HB9;go_wp2_with fail
   go_meet
   exact⟨rfl,_,H12.o,HNW.o⟩
  ·have sF:¬(((t.tab i).does:Nat):Int)=0:=ab;have HOL:=O (Be.old hd z_.o);clear hd;go_wp2_with fail
   go_meet
   exact⟨rfl,_,H9.o,HOL.o⟩
 case rest =>
  obtain⟨rfl,akv⟩:=hcut;have akw:=O akv;have HPK:=O (Ml steps 3 wc ag ag);obtain⟨p,hp,hp3⟩:∃p:Nat,Ah steps 3=(p:Int)/\p<3:=by
   have q:=wA steps 3 ag;exact⟨(Ah steps 3).toNat,ab,ab⟩
  rw[hp]at HPK;clear hp akv HDS H9;go_wp2_with fail
  refine HPK.o.mono ?_;rintro e y13⟨rfl,rfl⟩;clear HPK;go_wp2_with fail
  go_loopw[54] (afu y5 C T t i p) (fun iv _=>p-(intOf iv).toNat)
  case atStart =>
   obtain⟨u,hT,hu⟩:=akw.o;exact⟨0,ab,rfl,u,hT,hu⟩
  case round =>
   obtain⟨k,hk,rfl,u,hT,hu⟩:=hrel;clear akw;by_cases hkp:k<p
   ·have HDS:=O (Qj hT i hi6);by_cases h3:(u.tab i).does=3
    ·have h3':(((u.tab i).does:Nat):Int)=3:=ab;have HU:=O hu;have HTU:=O hT;clear hu hT h3;go_wp2_with fail
     refine HDS.o.mono ?_;rintro e y15⟨rfl,rfl⟩;clear HDS;obtain⟨l1,l2,l3,l4,l5⟩:=HU.o.leave hi6;have Mv:=yr HTU.o (i:Int) (k:=301+2*(k:Int)) ab HU.o.qZ;rw[l1,show xa 0=Value.nilIface from rfl]at Mv;clear l1 HU HTU;generalize (kP u (i:Int)).1=u2 at Mv l2 l3 l4 l5;have HCN:=O Mv;have L2:=O l2;have L3:=O l3;have L4:=O l4;have L5:=O l5;clear Mv l2 l3 l4 l5;go_wp2_with fail
     refine HCN.o.mono ?_;rintro e y20⟨rfl,h20, -⟩;have H20:=O h20;have hdz:=Qj H20.o i hi6;rw[L4.o]at hdz;have HDZ:=O hdz;have HWC:=O (wR H20.o L5.o);clear h20 hdz HCN;go_wp2_with fail
     refine HDZ.o.mono ?_;rintro e y21⟨rfl,rfl⟩;clear HDZ;go_wp2_with fail
     refine HWC.o.mono ?_;rintro e y22⟨D,qd,rfl,hD,Xh, -⟩;have Yi:=H20.o.di Xh;have HWS:=O (BP Yi hD L2.o.symm L5.o.ok);have H22:=O Yi;clear Yi hD Xh HWC H20;go_wp2_with fail
     refine HWS.o.mono ?_;rintro e y23⟨rfl,E7⟩;have H23:=O (H22.o.di E7);have HSY:=O (wS H23.o (show u2.fJ.length<1000000 by have:=HSL.o;rw[L3.o];omega));clear E7 HWS H22;go_wp2_with fail
     refine HSY.o.mono ?_;rintro e y24⟨sv,rfl,RS,Xi⟩;obtain⟨es2,av2,c2,CC,rfl, -⟩:=RS.open;have Xj:es2.length=L:=by have:=aq List.length CC;rwa [ai,L3.o, <-HL.o]at this
     rw[Xj];have H24:=O (H23.o.fr.trans Xi);clear RS CC Xj Xi HSY H23;go_wp2;go_ret;exact⟨rfl,((EC.o.trans H5.o).trans H24.o).pj⟩
    ·have h3':¬(((u.tab i).does:Nat):Int)=3:=ab;have jq:=LX hT (i:Int) (k:=301+2*(k:Int)) ab hu.qZ (by have:=HL.o;have:=HSL.o;rw[hu.s];omega) (HT.o.fr (EC.o.trans H5.o));obtain⟨q1,q2⟩:=hu.step hi6 h3;unfold qj at jq;rw[q1,show xa 0=Value.nilIface from rfl]at jq;rw[show 301+2*(k:Int)+2=301+2*((k+1:Nat):Int)from ab]at q2;clear q1 h3;generalize kZ u (i:Int)=rr at jq q2;have HS:=O jq;have HQ:=O q2
     clear jq q2 hT hu;go_wp2_with fail
     refine HDS.o.mono ?_;rintro e y15⟨rfl,rfl⟩;clear HDS;go_wp2_with fail
     refine HS.o.mono ?_;rintro e y16⟨rfl,Xq, -⟩;obtain⟨M,hM⟩:∃M,M=y16.heap.size:=⟨_,rfl⟩;have HMB:=O (show(y16.alloc (.cells #[.int .i64 0,.string ⟨#[]⟩,.int .i64 0] 46)).heap[M]?=some (.cells #[.int .i64 0,.string ⟨#[]⟩,.int .i64 0] 46 (0,0))from by rw[hM];exact aC _ _)
     obtain⟨y17,afy⟩:∃W,W=(y16.alloc (.cells #[.int .i64 0,.string ⟨#[]⟩,.int .i64 0] 46)).setRow M #[.int .i64 rr.2.1.what,.string rr.2.1.head,.int .i64 rr.2.1.cert]:=⟨_,rfl⟩;have akB:Fr aS y16 y17:=by rw[afy];exact jc ((ae aS y16).alloc _) (by rw[hM];exact ay _) _
     have H17:=O (Xq.di akB);have HM:=O hM;have aqA:=O afy;clear Xq hM akB afy HS;go_wp2_with (first
      |((with_reducible refine kE ⟨none,.store 46 _ _,_,_,_,_⟩ ?_)
        rw[<-HM.o]
        refine aG rfl 46 (.tmp 12) (.tmp 64) rfl M #[.int .i64 rr.2.1.what,.string rr.2.1.head,.int .i64 rr.2.1.cert] rfl rfl 46 #[.int .i64 0,.string ⟨#[]⟩,.int .i64 0] HMB.o (bf _ rfl) rfl ct ?_
        rw[<-aqA.o])
      |fail)
     go_roundw
     case rel=>exact⟨k+1,ab,bg,_,H17.o,HQ.o⟩
     case measure=>simp[intOf];omega
   ·have HU:=O hu;have HTU:=O hT;clear hu hT;obtain⟨l1,l2,l3,l4,l5⟩:=HU.o.leave hi6;have Mv:=yr HTU.o (i:Int) (k:=301+2*(k:Int)) ab HU.o.qZ;rw[l1,show xa 0=Value.nilIface from rfl]at Mv;clear l1 HU HTU;generalize (kP u (i:Int)).1=u2 at Mv l2 l3 l4 l5;have HCN:=O Mv;have L2:=O l2;have L3:=O l3;have L4:=O l4;have L5:=O l5;clear Mv l2 l3 l4 l5;go_wp2_with fail
    refine HCN.o.mono ?_;rintro e y20⟨rfl,h20, -⟩;have H20:=O h20;have hdz:=Qj H20.o i hi6;rw[L4.o]at hdz;have HDZ:=O hdz;have HWC:=O (wR H20.o L5.o);clear h20 hdz HCN;go_wp2_with fail
    refine HDZ.o.mono ?_;rintro e y21⟨rfl,rfl⟩;clear HDZ;go_wp2_with fail
    refine HWC.o.mono ?_;rintro e y22⟨D,qd,rfl,hD,Xh, -⟩;have Yi:=H20.o.di Xh;have HWS:=O (BP Yi hD L2.o.symm L5.o.ok);have H22:=O Yi;clear Yi hD Xh HWC H20;go_wp2_with fail
    refine HWS.o.mono ?_;rintro e y23⟨rfl,E7⟩;have H23:=O (H22.o.di E7);have HSY:=O (wS H23.o (show u2.fJ.length<1000000 by have:=HSL.o;rw[L3.o];omega));clear E7 HWS H22;go_wp2_with fail
    refine HSY.o.mono ?_;rintro e y24⟨sv,rfl,RS,Xi⟩;obtain⟨es2,av2,c2,CC,rfl, -⟩:=RS.open;have Xj:es2.length=L:=by have:=aq List.length CC;rwa [ai,L3.o, <-HL.o]at this
    rw[Xj];have H24:=O (H23.o.fr.trans Xi);clear RS CC Xj Xi HSY H23;go_wp2;go_ret;exact⟨rfl,((EC.o.trans H5.o).trans H24.o).pj⟩
end Go.Proofs.YtjndhcngnghpiaaGreatDoor
namespace Go.Proofs.YtjndhcngnghpiaaGreatDoor.tabsLeave
open Go.Proofs.Tryz
open Go.ChangeShapes Go.WideShapes Go.ChangeAt Go.RowKit
open Go.ChangeMaps (open_string shut_string)
theorem own:ownKnob prog.godebug=none:=af
theorem laidOut:laidOutB prog=true:=af
theorem lifted(os:Os)(started:os.Started)(H:Type)(enc:TypeId×Value->H) :
  ReturnsInHanded {} Tryz.checked os 4 .any (fun w args=>(Rows.tabsLeaveSpec.pre enc prog Tryz.f4 Rows.tabsLeaveRow.domain false w args/\laidMetH prog Rows.tabsLeaveRow.laid w)/\sizedMet enc prog Tryz.f4 (OpenSpec.ofChange Rows.tabsLeaveSpec) false w args)
   (Rows.tabsLeaveSpec.post enc prog Tryz.f4 false true false false):=by
 refine returnsInHanded_of_change_and (C:=Tryz.checked) (X:=fun w _=>laidMetH prog Rows.tabsLeaveRow.laid w) (fun _ _ _ hh h=>h.of_heap hh) own started af func4
  (ChangeSpec.witness_shaped (enc:=enc) (C:=Tryz.checked) (os:=os) (X:=fun w _=>laidMetH prog Rows.tabsLeaveRow.laid w) false (World.laidAll prog os Rows.tabsLeaveRow.laid) #[.slice none 0 0,.int .i64 0,.int .i64 0,.agg #[.int .i64 0,.int .i64 0,.bool false,.string ByteArray.empty,.int .i64 0,.bool false,.string ByteArray.empty,.int .i64 0,.string ByteArray.empty,.string ByteArray.empty,.string ByteArray.empty,.slice none 0 0,.bool false,.string ByteArray.empty,.bool false,.string ByteArray.empty,.string ByteArray.empty,.string ByteArray.empty,.string ByteArray.empty,.int .i64 0,.bool false,.int .i64 0]] 8 (World.laidAll_os _ _ _)
   (World.shaped_of_ZipB af af) af af af
   (by rw[MakeChecks.laidMetH_plain _ _ _ af];exact laidMet_laidAll _ af af)) ?_
 intro W base args ds gs before acq hW _ akC hL _;have yx:(DataW.weightsEach prog (Tryz.f4.params.toList++Rows.tabsLeaveSpec.plain.varTypes prog) (ds++gs)).all (· <=reachBytes)=true:=akC;clear akC;have hval:∀(j:Nat) t v,Tryz.f4.params[j]?=some t->args[j]?=some v->Value.okWide prog W .any base t v:=acq;have hW':=hW;obtain⟨p,q,hA0,hV,rfl,_,_⟩:=hW
 have hA:DataW.TrodAll enc prog W 0 (fun _=>true) true Tryz.f4.params.toList args.toList ds p:=hA0;rw[Tryz.params4]at hA hval yx;obtain⟨v0,vs0,d0,ds0,p0,q0,atI,rfl,rfl,h0,r0⟩:=trodAll_cons hA;obtain⟨v1,vs1,d1,ds1,p1,q1,rfl,rfl,rfl,h1,r1⟩:=trodAll_cons r0;obtain⟨v2,vs2,d2,ds2,p2,q2,rfl,rfl,rfl,h2,r2⟩:=trodAll_cons r1;obtain⟨v3,vs3,d3,ds3,p3,q3,rfl,rfl,rfl,h3,r3⟩:=trodAll_cons r2
 obtain⟨rfl,rfl,rfl⟩:=trodAll_nil r3;obtain rfl:args= #[v0,v1,v2,v3]:=by cases args;simp_all
 obtain⟨rfl,rfl⟩:=trodVars_none hV;have k0:=h0;have lt0:∀x∈p0,x.block<W.heap.size:=by obtain⟨m,hm⟩:=k0;exact DataW.trod_lt m _ _ _ hm
 obtain⟨ss0,st0⟩:=Ma (hval 0 22 v0 rfl rfl) h0 (L0 yx (j:=0) (t:=22) rfl rfl);obtain⟨a1,rfl,rfl,rfl,w1⟩:=open_int underlying3 (hval 1 3 v1 rfl rfl) h1;obtain⟨a2,rfl,rfl,rfl,w2⟩:=open_int underlying3 (hval 2 3 v2 rfl rfl) h2;have k3:=h3;have lt3:∀x∈p3,x.block<W.heap.size:=by obtain⟨m,hm⟩:=k3;exact DataW.trod_lt m _ _ _ hm
 obtain⟨o3,ss3,rfl,st3⟩:=OE (hval 3 33 v3 rfl rfl) h3 (L0 yx (j:=3) (t:=33) rfl rfl);clear hA0 acq;rw[MakeChecks.laidMetH_plain _ _ _ af]at hL;have tb0:=Ni hL (by refine⟨?_,?_⟩<;>repeat(first|exact True.intro|exact List.Mem.head _|refine List.Mem.tail _ ?_));have tb1:=Kn hL (by refine⟨?_,?_⟩<;>repeat(first|exact True.intro|exact List.Mem.head _|refine List.Mem.tail _ ?_))
 have tb2:=Ko hL (by refine⟨?_,?_⟩<;>repeat(first|exact True.intro|exact List.Mem.head _|refine List.Mem.tail _ ?_));have tb3:=M7 hL (by refine⟨?_,?_⟩<;>repeat(first|exact True.intro|exact List.Mem.head _|refine List.Mem.tail _ ?_));refine(Eu _ ss0 a1 a2 o3 ss3  W st0 st3 tb0 tb1 tb2 tb3).mono fun e W' ⟨he,rA⟩=>?_;subst he
 exact⟨_,rfl,_,_,_,[],_,[],hW',trodAll_mk1 (shut_bool underlying4 _),(trodAll_cons_mk (Below.trod laidOut af (of_decide_eq_true af) k0 rA lt0) (trodAll_cons_mk (shut_int underlying3 w1) (trodAll_cons_mk (shut_int underlying3 w2) (trodAll_cons_mk (Below.trod laidOut af (of_decide_eq_true af) k3 rA lt3) trodAll_mk0)))),rfl,rA.frame _,fun h=>by cases h⟩
end Go.Proofs.YtjndhcngnghpiaaGreatDoor.tabsLeave
