/- Lemmas for the law's walk. -/
import Derived.Test.YtjndhcngnghpiaaGreatDoorPo19
set_option maxRecDepth 100000
set_option maxHeartbeats 16000000
set_option linter.unusedSimpArgs false
namespace Go.Proofs.YtjndhcngnghpiaaGreatDoor
open Go.Proofs.Tryz
open Go.RowKit
variable {W a w:World} {R base i B T:Nat} {t' t:gB} {e:Ending} {k:Int} {p q q' r:aX} {g:Nat->qo} {sv v:Value} {sb:Nat->Nat} {o:jB} {hs:List gU}
section
variable {xw : Option (Nat × d_)} {a U U' : World} {T : Nat} {t : gB}
def O_(xw:Option (Nat×d_))(a U:World)(T:Nat)(r:gB×(ky×Bool))(e:Ending)(w':World):Prop :=
 e=.returned (.tuple #[.agg #[.int .i64 r.2.1.what,.string r.2.1.head,.int .i64 r.2.1.cert],.bool r.2.2,.nilIface])/\di xw a w' T r.1/\gH U w'
theorem Cb{r:ky×Bool}(h:di xw a W T t')(hk:gH U W)(hR:U.heap.size<=R)(ha:a.heap.size<=R)(hr:W.heap[R]?=some (.cells bQ 46 (0,0)))(cs:bS)(he:e=.returned (.tuple #[.agg #[.int .i64 r.1.what,.string r.1.head,.int .i64 r.1.cert],.bool r.2,.nilIface])):O_ xw a U T (t',r) e (W.setRow R cs) :=
 ⟨he,h.far ((ae (one R) _).setRow (fun _=>rfl) _) (fun n hn=>by have e':n=R:=hn;omega) (fun n hn=>by cases(show n=R from hn);exact⟨_,_,hr,Hm⟩),hk.new ((ae (one R) _).setRow (fun _=>rfl) _) hR⟩
theorem Zj(t:gB)(n:Nat)(x y:ux):(t.put n x).put n y=t.put n y:=by
 unfold gB.put;simp only
 congr 1
 funext i
 split<;>rfl
theorem jY.fits{V:World}{v:qo}{o:kn}(h:jY base V (v.o,v.hs) o):gL V v.o v.hs/\v.o.dP v.hs=o:=⟨h.fit,h.is⟩
theorem NJ(h:di xw a U T t)(hi:i<6)(hd:(t.tab i).does=3)(hk:k<1000000)(hf:fP k t)(hl:t.fO.length<1000000) :
  aC 31 #[.pointer (some ⟨T,0,none⟩),.int .i64 i,.pointer (some ⟨T,17+i*45,none⟩)] U (O_ xw a U T (jc t i)):=by
 have hd0:(t.tab i).does≠0:=ab;obtain⟨c1,c2,c3,c4,c5,c6⟩:=DV U (t.tab i).num;obtain⟨W4,hW4⟩:∃W4,W4=BK U (t.tab i).num:=⟨_,rfl⟩;rw[<-hW4]at c1 c2 c3 c4 c5 c6;have h4:=h.dt c1;obtain⟨v, -, v1, -, -, v4⟩:=h4.at hi;obtain⟨v4a,v4b⟩:=(v4 hd0).fits;have HV1:=O v1;have Wx:=O (Rn h (t.tab i).num hW4 v.o v.hs v4a);rw[v4b]at Wx;have ob:=h.lt;obtain⟨_, -, -, n0, -, -⟩:=h.at hi
 have HN0:=O (show(U.alloc (.cells bQ 46)).rangeAt T (17+i*45+26) (kM (t.tab i).num)from pH n0 ((ae aW U).alloc _) id);have MX:=O hW4;have Ww:=O hk;have BL:=O hf;have HL:=O hl;have HD:=O hd;have HI:=O hi;have HA:=O h.fr.size
 have Il:=O (show((U.alloc (.cells bQ 46)).alloc (.cells (zG (.pointer none) (fun _ _=>0)).toArray 78)).heap[U.heap.size+1]?=some (.cells (zG (.pointer none) (fun _ _=>0)).toArray 78 (0,0))from by
  have:=aB (U.alloc (.cells bQ 46)) (.cells (zG (.pointer none) (fun _ _=>0)).toArray 78);simpa using this)
 obtain⟨f,hf'⟩:∃f,f=(t.tab i).num:=⟨_,rfl⟩;rw[<-hf']at HN0 Wx MX;have HF:=O hf';clear h h4 v1 v4 v4a v4b n0 c1 c2 c3 c4 c5 c6 hW4 hk hf hl hd hd0 hf';unfold BK at MX;go_enter func31,ntmps31
 go_wp2_with (first|((with_reducible refine dv 18 ?_);refine a_ rfl 73 (.tmp 17) rfl T (17+i*45+26) rfl (kM f) _ HN0.o underlying73 rfl af ?_;refine wpList_buildTo rfl 78 _ rfl (some 19) rfl [(1,.agg (kM f).toArray)] (by simp only[eA,cz,cY];rfl) (zG (.pointer none) f).toArray (VC f) ?_;refine kC rfl 78 rfl (some 9) rfl (zG (.pointer none) (fun _ _=>0)).toArray VD (U.heap.size+1) aQ ?_;refine aF rfl 78 (.tmp 9) (.tmp 19) rfl (U.heap.size+1) (zG (.pointer none) f).toArray rfl rfl 78 (zG (.pointer none) (fun _ _=>0)).toArray Il.o VE rfl (Zh f) ?_;change wpList _ _ _ _ _ (zH U f);have Ci:=F_ U f;generalize zH U f=W2 at *)|((with_reducible refine dv 24 ?_);rw[<-MX.o];refine a_ rfl 33 (.tmp 23) rfl T (17+i*45+1) rfl v.o.cells _ HV1.o underlying33 rfl af ?_)|fail)
 refine Wx.o.mono ?_;rintro e u⟨rfl,hu⟩;clear Ci MX HV1 Wx Il HN0;obtain⟨v2, -, m1, -, -, m4⟩:=hu.tabs.at HI.o;obtain⟨m4a,m4b⟩:=(m4 (by rw[HD.o];decide)).fits;obtain⟨va,hcs⟩:=NI hu v2.o v2.hs m4a;rw[m4b]at hcs;have HV2:=O m1;have zk:=O hcs;clear hu m1 m4 m4a m4b hcs
 go_wp2_with (first|((with_reducible refine dv 30 ?_);refine a_ rfl 33 (.tmp 29) rfl T (17+i*45+1) rfl v2.o.cells _ HV2.o underlying33 rfl af ?_)|fail)
 refine zk.o.mono ?_;rintro e u2⟨rfl,lD⟩;obtain⟨vb,d1,d2,⟨a1,n1,b1,rfl⟩,⟨a2,n2,b2,rfl⟩,hce⟩:=VF rfl lD;have HCE:=O hce;have p_:=O lD;clear lD hce HV2 zk;go_wp2_with fail
 refine HCE.o.mono ?_;rintro e u3⟨rfl,B8⟩;have QX:=O (p_.o.tabs.dt B8);have r3:=p_.o.rest.dt B8;have TP:=O r3.rep;have Q_:=O r3.kept;clear d1 d2 B8 r3 HCE p_;rw[HF.o];clear HF;obtain⟨R,hR⟩:∃R,R=U.heap.size:=⟨_,rfl⟩;have Wz:=O (show U.heap.size<=R from ab);have WA:=O (show a.heap.size<=R by have:=HA.o;omega);rw[<-hR]at TP ⊢;clear hR;have hfi:=BL.o.fails i
 by_cases hv:FU (t.tab i).op t.num=FU (t.tab i).op (t.tab i).num
 ·rw[bK hv];obtain⟨v3, -, k1, -, k3,k4⟩:=QX.o.at HI.o;obtain⟨k4a,k4b⟩:=(k4 (by rw[HD.o];decide)).fits;have xc:=AE u3 v3.o v3.hs k4a;rw[k4b]at xc;have Eo:=O xc;have HV3:=O k1;clear xc k1 k3 k4 k4a k4b hfi;cases hw:(eN (t.tab i).op).2
  ·as_aux_lemma =>
    have HE:=O (show jc t i=(mA t i (t.tab i).iI,(t.tab i).iI,true)by unfold jc;rw[aA hv,hw];rfl);rw[hw]at Eo;clear hv hw;go_wp2_with (first|((with_reducible refine dv 66 ?_);refine a_ rfl 33 (.tmp 65) rfl T (17+i*45+1) rfl v3.o.cells _ HV3.o underlying33 rfl af ?_)|fail)
    refine Eo.o.mono ?_;rintro e u4⟨rfl,M1⟩;have ht4:=QX.o.dt M1;obtain⟨-, -, -, -, k3, -⟩:=ht4.at HI.o;have HV4:=O k3;have HEN:=O (DT ht4 HI.o (t.tab i).iI (by rw[HD.o];decide) HL.o);have Wk:=O (M1.keep TP.o id);have Xo:=O (Q_.o.trans (eE M1));clear M1 ht4 k3 Eo HV3 QX TP Q_;generalize (t.tab i).iI=rr at *
    go_wp2_with (first|((with_reducible refine dv 99 ?_);refine a_ rfl 46 (.tmp 98) rfl T (17+i*45+42) rfl (pW rr) _ HV4.o underlying46 rfl af ?_)|fail)
    refine HEN.o.mono ?_;rintro e u5⟨rfl,z1,z2⟩;have LA:=O (z2.block Wk.o rI);have WB:=O z1;have HZ2:=O (Xo.o.trans z2);clear z1 z2;go_wp2_with (first|((with_reducible refine cP 46 ?_);refine aF rfl 46 (.tmp 6) (.tmp 101) rfl R #[.int .i64 rr.what,.string rr.head,.int .i64 rr.cert] rfl rfl _ bQ LA.o (bd _ rfl) rfl bX ?_)|fail)
    refine aR (jd bw _ _ R 46 #[.int .i64 rr.what,.string rr.head,.int .i64 rr.cert] (0,0) _ rfl (aY _ R _ _ _ _ LA.o) underlying46 rfl (bd _ rfl)) rfl ?_;rw[HE.o];exact Cb WB.o HZ2.o Wz.o WA.o LA.o _ rfl
  ·as_aux_lemma =>
    have HE:=O (show jc t i=(mA {t with w:=mz t.w (t.tab i).seen (t.tab i).op.part (eN (t.tab i).op).1,num:=FV (t.tab i).op t.num} i (t.tab i).iI,(t.tab i).iI,true)by unfold jc;rw[aA hv,hw];rfl);rw[hw]at Eo;clear hv hw;go_wp2_with (first|((with_reducible refine dv 66 ?_);refine a_ rfl 33 (.tmp 65) rfl T (17+i*45+1) rfl v3.o.cells _ HV3.o underlying33 rfl af ?_)|fail)
    refine Eo.o.mono ?_;rintro e u4⟨rfl,M1⟩;have ht4:=QX.o.dt M1.drew;have Wk:=O (show u4.drew.heap[R]?=some (.cells bQ 46 (0,0))from M1.drew.keep TP.o id);have Xo:=O (Q_.o.trans (eE M1.drew));obtain⟨B,g,sv,sb,p1,p2,p3,p4⟩:=ht4.ex;have p9:=(p4 i HI.o).2 (Or.inr HD.o);have B7:(g i).o.aI.part=(t.tab i).op.part:=by rw[<-((p4 i HI.o).1 (by rw[HD.o];decide)).is];rfl
    have Pv:=O (di.main p1 p2 p3 p4 ht4.low ht4.fr (x':=mz t.w (t.tab i).seen (t.tab i).op.part (eN (t.tab i).op).1) (fun pv hw=>by
     obtain⟨qv,hq⟩:=p2.at (i:=i) (B:=sb i) (x:=(t.tab i).seen) (by
      have:=HI.o;unfold oY;rw[ar ab,ar ab,aA ⟨HI.o,Or.inr HD.o⟩])
     exact Ri hw hq (BL.o.seen i (Or.inr HD.o)) (t.tab i).op.part (Ra _)))
    have m0:=p1.main;have m25:u4.drew.cell? ⟨T,17+i*45+25,none⟩=some (.pointer (some ⟨sb i,0,none⟩)):=by rw[<-p9];exact p1.tab i HI.o 25 _ rfl
    have m2:u4.drew.cell? ⟨T,17+i*45+1+1,none⟩=some (.int .i64 (t.tab i).op.part):=by rw[<-B7];exact p1.tab i HI.o 2 _ rfl
    have xy:=O p9;have HPT:=O B7;clear M1 ht4 p1 p2 p3 p4 p9 B7 Eo HV3 QX TP Q_;obtain⟨cn,hcn⟩:∃cn:Nat,cn=(eN (t.tab i).op).1:=⟨_,rfl⟩;obtain⟨pt,B7⟩:∃pt:Int,pt=(t.tab i).op.part:=⟨_,rfl⟩;have HCN:=O hcn;have HPN:=O B7;rw[<-hcn, <-B7]at Pv;rw[<-B7]at m2;rw[<-hcn];clear hcn B7;go_wp2_with fail
    refine wp_region_held_drew (S:=(fun V=>V.cell? ⟨T,0,none⟩=some (.pointer (some ⟨B,0,none⟩))/\V.cell? ⟨T,17+i*45+25,none⟩=some (.pointer (some ⟨sb i,0,none⟩))/\V.cell? ⟨T,17+i*45+1+1,none⟩=some (.int .i64 pt))) af (by exact⟨m0,m25,m2⟩) ?_;intro yl;refine aO 0 71 rfl ?_;refine aO 1 72 rfl ?_;refine aO 2 73 rfl ?_;refine aO 3 74 rfl ?_;refine aO 4 75 rfl ?_;refine aO 5 76 rfl ?_;refine aO 6 77 rfl ?_
    refine aO 7 78 rfl ?_;refine aO 8 79 rfl ?_;refine aO 9 80 rfl ?_;refine aO 10 81 rfl ?_;refine aO 11 82 rfl ?_;refine aO 12 83 rfl ?_;refine aO 13 84 rfl ?_;refine aO 14 85 rfl ?_;refine eK 15 rfl fun K hK=>?_;go_simp;refine Pv.o.mono ?_;rintro e u5⟨rfl,z1,z2,z3⟩;have WB:=O z1;have LA:=O ((gH.Nj z3).block Wk.o rI);have HK5:=O (Xo.o.trans (gH.Nj z3))
    have wU:u5.cell? ⟨T,0,none⟩=some (.pointer (some ⟨B,0,none⟩))/\u5.cell? ⟨T,17+i*45+25,none⟩=some (.pointer (some ⟨sb i,0,none⟩))/\u5.cell? ⟨T,17+i*45+1+1,none⟩=some (.int .i64 pt):=⟨z2.main,by rw[<-xy.o];exact z2.tab i HI.o 25 _ rfl,by rw[HPN.o, <-HPT.o];exact z2.tab i HI.o 2 _ rfl⟩;refine hK.out _ _ wU ?_;intro Bj;clear hK K yl wU Bj z1 z2 z3 m0 m25 m2 Pv Wk Xo;refine wpAnyH_done af ?_ _
    have ht5:=WB.o;obtain⟨v6, -, k1, -, -, k4⟩:=ht5.at HI.o;obtain⟨k4a,k4b⟩:=(k4 (show((t.tab i).does≠0)by rw[HD.o];decide)).fits;have hkp:NF T (fun V=>V.heap[R]?=some (.cells bQ 46 (0,0))/\gH U V):=fun V V' c hS hc hF=>⟨hF.keep hS.1 (fun e=>by
     cases(show R=T from e);have:=hS.1;rw[hc]at this;cases this),hS.2.tabs hc hF⟩
    have hnu:=v8 u5 T v6.o v6.hs _ #[] call55 (Vy xw a T {t with w:=mz t.w (t.tab i).seen pt cn} (fun V=>V.heap[R]?=some (.cells bQ 46 (0,0))/\gH U V)) ⟨by rw[Rj];exact ht5,LA.o,HK5.o⟩ (fun d V V' hV hf=>hV.dt hkp hf) (Zd hkp (fun p i=>⟨(BL.o.num p i).1,by have h1:=(BL.o.num p i).2;have h2:=Ww.o;show t.num p i<_;omega⟩)) k4a;rw[show v6.o.dP v6.hs=(t.tab i).op from k4b]at hnu;have HNU:=O hnu
    have HV6:=O k1;clear ht5 k1 k4 k4a k4b hkp hnu WB LA HK5;go_wp2_with (first|((with_reducible refine dv 91 ?_);refine a_ rfl 33 (.tmp 90) rfl T (17+i*45+1) rfl v6.o.cells _ HV6.o underlying33 rfl af ?_)|fail)
    refine HNU.o.mono ?_;rintro e u6⟨rfl,hu6⟩;have ht6:=hu6.tabs;obtain⟨-, -, -, -, k3, -⟩:=ht6.at HI.o;have HV4:=O (show u6.rangeAt T (17+i*45+42) (pW (t.tab i).iI)from k3);have hen:=DT ht6 HI.o (t.tab i).iI (show(t.tab i).does≠0 by rw[HD.o];decide) HL.o;have Wk:=O hu6.rest.1;have Xo:=O hu6.rest.2
    have HEE:=O (show({t with w:=mz t.w (t.tab i).seen (t.tab i).op.part (eN (t.tab i).op).1,num:=FV (t.tab i).op t.num}:gB)={({t with w:=mz t.w (t.tab i).seen pt cn}:gB)with num:=v_ (mQ (t.tab i).op) t.num}from by rw[HPN.o,HCN.o];rfl);rw[HEE.o]at HE;have HEN:=O hen;clear hu6 ht6 k3 hen HNU HV6 HEE;generalize (t.tab i).iI=rr at *
    go_wp2_with (first|((with_reducible refine dv 99 ?_);refine a_ rfl 46 (.tmp 98) rfl T (17+i*45+42) rfl (pW rr) _ HV4.o underlying46 rfl af ?_)|fail)
    refine HEN.o.mono ?_;rintro e u5⟨rfl,z1,z2⟩;have LA:=O (z2.block Wk.o rI);have WB:=O z1;have HZ2:=O (Xo.o.trans z2);clear z1 z2;go_wp2_with (first|((with_reducible refine cP 46 ?_);refine aF rfl 46 (.tmp 6) (.tmp 101) rfl R #[.int .i64 rr.what,.string rr.head,.int .i64 rr.cert] rfl rfl _ bQ LA.o (bd _ rfl) rfl bX ?_)|fail)
    refine aR (jd bw _ _ R 46 #[.int .i64 rr.what,.string rr.head,.int .i64 rr.cert] (0,0) _ rfl (aY _ R _ _ _ _ LA.o) underlying46 rfl (bd _ rfl)) rfl ?_;rw[HE.o];exact Cb WB.o HZ2.o Wz.o WA.o LA.o _ rfl
 ·rw[bB hv];have q0:(0:Int)<=((t.tab i).fails:Int):=ab;have q3:((t.tab i).fails:Int)<=3:=ab;have hfz:=QX.o;obtain⟨B,g,sv,sb,p1, -⟩:=hfz.ex;have c23:u3.cell? ⟨T,17+i*45+23,none⟩=some (.int .i64 (t.tab i).fails):=p1.tab i HI.o 23 _ rfl;have f23:=p1.free (17+i*45+23)
  obtain⟨s1,s2⟩:=hfz.Vz HI.o (j:=23) ag (.int .i64 ((t.tab i).fails+1:Nat)) (x:={t.tab i with fails:=(t.tab i).fails+1}) (fun _=>rfl) rfl id (fun h=>⟨h,rfl⟩);rw[show(((t.tab i).fails+1:Nat):Int)=((t.tab i).fails:Int)+1 from ab]at s1 s2;obtain⟨cT,Hs⟩:=hfz.kind;have hRT:R≠T:=fun e=>by
   have:=TP.o;rw[e,Hs]at this;cases this
  have LA:=O (s2.keep TP.o (fun e=>hRT e));have HK5:=O (Q_.o.tabs Hs s2);have HS1:=O s1;clear hfz p1 s1 s2 Hs QX TP Q_;by_cases h3:((t.tab i).fails:Int)+1<=3
  ·as_aux_lemma =>
    have HE:=O (show jc t i=(t.put i {t.tab i with fails:=(t.tab i).fails+1,does:=1},rep 0,false)by unfold jc;rw[ar hv,aA ab]);obtain⟨b1,b2⟩:=HS1.o.Vz HI.o (j:=0) ag (.int .i64 1) (x:={t.tab i with fails:=(t.tab i).fails+1,does:=1}) (fun _=>by rw[mD];rfl) (by rw[mD]) (fun _=>by rw[mD];show(t.tab i).does≠0;rw[HD.o];decide) (fun h=>by simp at h);rw[Zj,show 17+i*45+0=17+i*45 from rfl]at b1
    rw[show 17+i*45+0=17+i*45 from rfl]at b2;have Ry:=O b1;obtain⟨cT5,aiF⟩:=HS1.o.kind;have Ik:=O (b2.keep LA.o (fun e=>hRT e));have HK6:=O (HK5.o.tabs aiF b2);obtain⟨B5,g5,sv5,sb5,p5, -⟩:=HS1.o.ex;have c0:=p5.tab i HI.o 0 _ rfl;rw[show 17+i*45+0=17+i*45 from rfl]at c0;have f0:=p5.free (17+i*45);clear hv b1 b2 aiF p5 HS1 LA HK5
    go_wp2_with (first|((with_reducible refine cP 46 ?_);refine aF rfl 46 (.tmp 6) (.tmp 53) rfl R #[.int .i64 0,.string ⟨#[]⟩,.int .i64 0] rfl rfl _ bQ Ik.o (bd _ rfl) rfl bX ?_)|fail)
    refine aR (jd bw _ _ R 46 #[.int .i64 0,.string ⟨#[]⟩,.int .i64 0] (0,0) _ rfl (aY _ R _ _ _ _ Ik.o) underlying46 rfl (bd _ rfl)) rfl ?_;rw[HE.o];exact Cb Ry.o HK6.o Wz.o WA.o Ik.o _ rfl
  ·as_aux_lemma =>
    have HE:=O (show jc t i=(mA (t.put i {t.tab i with fails:=(t.tab i).fails+1}) i (rep 6),rep 6,true)by unfold jc;rw[ar hv,ar ab]);have HEN:=O (DT HS1.o HI.o (rep 6) (by rw[mD];show(t.tab i).does≠0;rw[HD.o];decide) HL.o);clear hv;go_wp2_with fail
    refine HEN.o.mono ?_;rintro e u5⟨rfl,z1,z2⟩;have Ik:=O (z2.block LA.o rI);have WB:=O z1;have HZ2:=O (HK5.o.trans z2);clear z1 z2;go_wp2_with (first|((with_reducible refine cP 46 ?_);refine aF rfl 46 (.tmp 6) (.tmp 59) rfl R #[.int .i64 6,.string ⟨#[]⟩,.int .i64 0] rfl rfl _ bQ Ik.o (bd _ rfl) rfl bX ?_)|fail)
    refine aR (jd bw _ _ R 46 #[.int .i64 6,.string ⟨#[]⟩,.int .i64 0] (0,0) _ rfl (aY _ R _ _ _ _ Ik.o) underlying46 rfl (bd _ rfl)) rfl ?_;rw[HE.o];exact Cb WB.o HZ2.o Wz.o WA.o Ik.o _ rfl
end
section
variable {xw : Option (Nat × d_)} {a U U' : World} {T : Nat} {t : gB}
def oN(xw:Option (Nat×d_))(a U:World)(T:Nat)(r:gB×(ky×Bool×Nat))(e:Ending)(w':World):Prop :=
 e=.returned (.tuple #[.agg #[.int .i64 r.2.1.what,.string r.2.1.head,.int .i64 r.2.1.cert],.bool r.2.2.1,zy r.2.2.2])/\di xw a w' T r.1/\gH U w'
theorem step_end{r:ky×Bool×Nat}(h:di xw a W T t')(hk:gH U W)(hR:U.heap.size<=R)(ha:a.heap.size<=R)(hr:W.heap[R]?=some (.cells bQ 46 (0,0)))(cs:bS)(he:e=.returned (.tuple #[.agg #[.int .i64 r.1.what,.string r.1.head,.int .i64 r.1.cert],.bool r.2.1,zy r.2.2])):oN xw a U T (t',r) e (W.setRow R cs) :=
 ⟨he,h.far ((ae (one R) _).setRow (fun _=>rfl) _) (fun n hn=>by have e':n=R:=hn;omega) (fun n hn=>by cases(show n=R from hn);exact⟨_,_,hr,Hm⟩),hk.new ((ae (one R) _).setRow (fun _=>rfl) _) hR⟩
def Zk(a:World)(x:d_)(op:kn):Prop:=∀(V:World) (B:Nat) (pv:Nat->dm) (o:jB) (hs:List gU),o.dP hs=op->df a.heap.size V B pv x->Fr aW a V->gL V o hs ->
 aC 30 #[.pointer (some ⟨B,0,none⟩),.agg o.cells.toArray] V fun e w'=>e=.returned (.agg #[.int .i64 (mX x op).2.what,.string (mX x op).2.head,.int .i64 (mX x op).2.cert])/\dy a.heap.size V B pv (mX x op).1 w'
theorem di.tick(h:di xw a U T t)(k:Int):di xw a (U.setCell ⟨T,287,none⟩ (.int .i64 k)) T {t with steps:=k}/\Fr (one T) U (U.setCell ⟨T,287,none⟩ (.int .i64 k)):=by
 obtain⟨B,g,sv,sb,h1,h2,h3,h4⟩:=h.ex;have q:=h1.DK k;exact⟨kp (t':={t with steps:=k}) h1 h2 h3 h4 h.low h.fr q rfl (fun _ _ hp=>hp) (fun j hj=>⟨fun hd=>Or.inl ⟨rfl,rfl,rfl,hd⟩,(h4 j hj).2⟩),q.2⟩
theorem di.cells(h:di xw a U T t)(hi:i<6):U.cell? ⟨T,17+i*45,none⟩=some (.int .i64 (t.tab i).does)/\U.cell? ⟨T,287,none⟩=some (.int .i64 t.steps)/\(∀k,U.frozen? ⟨T,k,none⟩=false)/\U.rangeAt T 1 (kM t.num)/\(∀o n,o+n<=289->U.there T o n):=by
 obtain⟨B,g,sv,sb,h1,h2,h3,h4⟩:=h.ex;exact⟨h1.tab i hi 0 _ rfl,h1.steps,fun k=>h1.free k,h1.num,fun o n hn=>h1.there hn⟩
theorem Ht{b o:Nat}(h:U.rangeAt b o (p++(q++r)))(hl:q'.length=q.length)(ht:U.there b (o+p.length) q'.length):(U.setCells b (o+p.length) q').rangeAt b o (p++(q'++r)):=fun j v hj=>by
 by_cases h1:j<p.length
 ·rw[List.getElem?_append_left h1]at hj;rw[World.cell?_setCells_out b q' _ U ⟨b,o+j,none⟩ (fun _ _=>Or.inl (show o+j<o+p.length from ab))];exact h j v (by rw[List.getElem?_append_left h1];exact hj)
 ·by_cases h2:j<p.length+q'.length
  ·rw[List.getElem?_append_right ab,List.getElem?_append_left ab]at hj;have:=World.rangeAt_setCells_same U b (o+p.length) q' ht (j-p.length) v hj
   rwa [show o+p.length+(j-p.length)=o+j from ab]at this
  ·rw[List.getElem?_append_right ab,List.getElem?_append_right ab]at hj;rw[World.cell?_setCells_out b q' _ U ⟨b,o+j,none⟩ (fun _ _=>Or.inr (show o+p.length+q'.length<=o+j from ab))];exact h j v (by rw[List.getElem?_append_right ab,List.getElem?_append_right ab, <-hl];exact hj)
theorem fU.VG(h:fU U T B g sv t){n:Nat}(hn:n<6){x:ux}{w:qo}(hx:mN (t.tab n) (g n)=p++(q++r))(hl:q'.length=q.length)(SB:mN x w=p++(q'++r)) :
  fU (U.setCells T (17+n*45+p.length) q') T B (fun i=>if i=n then w else g i) sv (t.put n x)/\Fr (one T) U (U.setCells T (17+n*45+p.length) q'):=by
 have hlen:p.length+q'.length<=45:=by
  have:=pX x w;rw[SB]at this;simp at this;omega
 refine⟨⟨lA T _ _ q' _ _ h.eG,eQ h.main (Or.inl ab),bV h.num T _ q' (Or.inr (Or.inl (by rw[nu];omega))),fun m hm=>?_,eQ h.steps (Or.inr ab),eQ h.st (Or.inr ab)⟩,mB T q' _ _ (ae _ _)⟩;by_cases e:m=n
 ·subst e;show World.rangeAt _ T (17+m*45) (mN (if m=m then x else t.tab m) (if m=m then w else g m));rw[aA rfl,aA rfl,SB];have:=h.tab m hm;rw[hx]at this;exact Ht this hl (h.there ab)
 ·show World.rangeAt _ T (17+m*45) (mN (if m=n then x else t.tab m) (if m=n then w else g m));rw[ar e,ar e];exact bV (h.tab m hm) T _ q' (by
   right;rw[pX];rcases fC m n with q|q
   ·left;omega
   ·right;omega)
theorem DX{P:Program}{ops:Array Oper}{a:Act}{w:World}{K:Act->World->Prop}{Q:Exit->Act->World->Prop}{E:Prop}{op:Oper}(ym:op.guard=none)(ty:TypeId)(x y:Operand)(ho:op.op=.store ty x y)
  (b o:Nat)(v:Value)(hx:a.eval x=.pointer (some ⟨b,o,none⟩))(hy:a.eval y=v)(hv:v.cells= #[v])
  (ht:w.there b o 1)(hi:(P.info? ty).map (·.size)=some 1)(h1:v.oneCell'=true)
  (h:K (a.put op.dst undef) (w.setCell ⟨b,o,none⟩ v)):if Region.wanted op (yielded ops a.tmps)=true then Oper.wp P op a w K Q else E:=by
 have hw:Region.wanted op (yielded ops a.tmps)=true:=by simp[Region.wanted,ym]
 rw[aA hw];have hr:(storeVar ty ⟨b,o,none⟩ v).run P w=.ok () (w.setCells b o [v]):=by
  have e:storeVar ty ⟨b,o,none⟩ v=storeVar ty ⟨b,o,none⟩ (.agg #[v]):=by
   unfold storeVar;rw[hv];rfl
  rw[e];exact run_storeVar_mid w b o ty #[v] ht hi (by simp[h1])
 unfold Oper.wp execOp;simp only[ho,hx,hy,Instr.storeAt,Instr.sureAddr,Sem.run_bind,Sem.run_pure,Result.andThen_ok,hr];exact h
theorem VH(r:ky):(pW r).toArray.all (·.oneCell')=true :=
 bU (by
  intro u hu;unfold pW at hu;simp only[bu,cg,dS]at hu;rcases hu with rfl|rfl|rfl<;>rfl)
theorem VI(f:Nat->Nat->Int):(kM f).toArray.all (·.oneCell')=true :=
 bU (by
  intro u hu;unfold kM at hu;simp only[bu,cg,dS]at hu;rcases hu with rfl|rfl|rfl|rfl|rfl|rfl|rfl|rfl|rfl|rfl|rfl|rfl|rfl|rfl|rfl|rfl<;>rfl)
theorem di.asm{c:bS}(hb:fU W T B g sv t)(hw:xp a.heap.size U (oY xw B sb t))(he:qy a.heap.size U sv t.fO)(ho:∀n,n<6->(t.tab n).does≠0->jY a.heap.size U ((g n).o,(g n).hs) (t.tab n).op)(hp:∀n,n<6->(t.tab n).does=2\/(t.tab n).does=3->(g n).sp=.pointer (some ⟨sb n,0,none⟩))(hc:U.heap[T]?=some (.cells c 78 (0,0)))(hF:Fr (one T) U W)(kR:a.heap.size<=T)(cN:Fr aW a U):di xw a W T t :=
 ⟨⟨B,g,sv,sb,hb,hw.one kR hc qX.1 qX.2 ag hF,he.one hc ag ag hF,fun n hn=>⟨fun hd=>(ho n hn hd).one hc ag hF,hp n hn⟩⟩,kR,cN.step hF fun k hk e=>by
  have:k=T:=e;omega⟩
theorem Ro{B C:Nat}{g:Nat->qo}{sv:Value}{sb:Nat->Nat}{i:Nat}{qv:Nat->dm}(hi:i<6)(h1:fU U T B g sv t)(h2:xp a.heap.size U (oY xw B sb t))(h3:qy a.heap.size U sv t.fO)
  (h4:∀n,n<6->((t.tab n).does≠0->jY a.heap.size U ((g n).o,(g n).hs) (t.tab n).op)/\((t.tab n).does=2\/(t.tab n).does=3->(g n).sp=.pointer (some ⟨sb n,0,none⟩)))(hd:(t.tab i).does≠0)(kR:a.heap.size<=T)(cN:Fr aW a U)
  (hF:Fr aW U U')(hc:df a.heap.size U' C qv t.w)(hn:∀j,mr C qv j->U.heap.size<=j) :
  di xw a (((U'.setCell ⟨T,17+i*45+25,none⟩ (.pointer (some ⟨C,0,none⟩))).setCells T (17+i*45+26) (kM t.num)).setCell ⟨T,17+i*45,none⟩ (.int .i64 2)) T (t.put i {t.tab i with seen:=t.w,num:=t.num,does:=2})/\Fr (one T) U' (((U'.setCell ⟨T,17+i*45+25,none⟩ (.pointer (some ⟨C,0,none⟩))).setCells T (17+i*45+26) (kM t.num)).setCell ⟨T,17+i*45,none⟩ (.int .i64 2))/\((U'.setCell ⟨T,17+i*45+25,none⟩ (.pointer (some ⟨C,0,none⟩))).setCells T (17+i*45+26) (kM t.num)).cell? ⟨T,17+i*45,none⟩=some (.int .i64 (t.tab i).does)/\(∀k,((U'.setCell ⟨T,17+i*45+25,none⟩ (.pointer (some ⟨C,0,none⟩))).setCells T (17+i*45+26) (kM t.num)).frozen? ⟨T,k,none⟩=false)/\(U'.setCell ⟨T,17+i*45+25,none⟩ (.pointer (some ⟨C,0,none⟩))).there T (17+i*45+26) 16:=by
 have b1:=h1.fr hF id;have w1:xp a.heap.size U' (oY xw B (fun j=>if j=i then C else sb j) (t.put i {t.tab i with seen:=t.w,num:=t.num,does:=2})):=by
  refine(h2.add hF (i:=i) hc hn).sub fun j p hp=>?_;by_cases e:j=i
  ·subst e;rw[aA rfl];unfold oY at hp;rw[ar ab,ar ab]at hp;simpa[gB.put,hi]using hp
  ·rw[ar e];unfold oY at hp ⊢;by_cases e6:j=6
   ·rw[aA e6]at hp ⊢;exact hp
   ·rw[ar e6]at hp ⊢;simpa[gB.put,e]using hp
 have q1:=b1.B' hi (j:=25) ag (.pointer (some ⟨C,0,none⟩)) (x:=t.tab i) (w:={g i with sp:=.pointer (some ⟨C,0,none⟩)}) rfl;have q2:=q1.1.VG (n:=i) hi (x:={t.tab i with num:=t.num}) (w:={g i with sp:=.pointer (some ⟨C,0,none⟩)})
  (p:=.int .i64 (t.tab i).does :: ((g i).o.cells++[.int .i64 (t.tab i).fails,.int .i64 (t.tab i).mM,.pointer (some ⟨C,0,none⟩)])) (q:=kM (t.tab i).num) (q':=kM t.num) (r:=pW (t.tab i).iI)
  (by simp only[mD,dY];rfl) rfl rfl
 have q3:=q2.1.B' hi (j:=0) ag (.int .i64 2) (x:={t.tab i with num:=t.num,does:=2}) (w:={g i with sp:=.pointer (some ⟨C,0,none⟩)}) (by simp only[mD,dY];rfl);have Ec:=(q1.2.trans q2.2).trans q3.2;obtain⟨c,Hs,_⟩:=b1.eG;refine⟨?_,Ec,?_,q2.1.free,q1.1.there ab⟩
 ·refine di.asm (q3.1.same (t':=t.put i {t.tab i with seen:=t.w,num:=t.num,does:=2}) rfl (fun n hn=>?_) rfl) w1 (h3.kept (kO hF)) (fun n hn vN=>?_) (fun n hn vN=>?_) Hs Ec kR (cN.trans hF)
  ·by_cases e:n=i
   ·subst e;simp only[mD,dY];rfl
   ·simp[gB.put,e]
  ·by_cases e:n=i
   ·subst e;simp only[mD,dY];exact((h4 n hn).1 hd).kept (kO hF)
   ·simp only[gB.put,ar e]at vN ⊢;exact((h4 n hn).1 vN).kept (kO hF)
  ·by_cases e:n=i
   ·subst e;simp
   ·simp only[gB.put,ar e]at vN ⊢;exact(h4 n hn).2 vN
 ·exact q2.1.tab i hi 0 (.int .i64 (t.tab i).does) (by simp only[mD,dY];rfl)
theorem Rp{x':d_}(r:ky)(hi:i<6)(h1:fU U T B g sv t)(h2:xp a.heap.size U (oY xw B sb (t.put i {t.tab i with seen:=x'})))(h3:qy a.heap.size U sv t.fO)(h4:∀n,n<6->(t.tab n).does≠0->jY a.heap.size U ((g n).o,(g n).hs) (t.tab n).op)(h5:∀n,n<6->(t.tab n).does=2\/(t.tab n).does=3->(g n).sp=.pointer (some ⟨sb n,0,none⟩))(hd:(t.tab i).does=2)(kR:a.heap.size<=T)(cN:Fr aW a U) :
  di xw a ((U.setCells T (17+i*45+42) (pW r)).setCell ⟨T,17+i*45,none⟩ (.int .i64 3)) T (t.put i {t.tab i with iI:=r,seen:=x',does:=3})/\Fr (one T) U ((U.setCells T (17+i*45+42) (pW r)).setCell ⟨T,17+i*45,none⟩ (.int .i64 3))/\(U.setCells T (17+i*45+42) (pW r)).cell? ⟨T,17+i*45,none⟩=some (.int .i64 (t.tab i).does)/\(∀k,(U.setCells T (17+i*45+42) (pW r)).frozen? ⟨T,k,none⟩=false)/\U.there T (17+i*45+42) 3:=by
 have q2:=h1.VG (n:=i) hi (x:={t.tab i with iI:=r}) (w:=g i)
  (p:=.int .i64 (t.tab i).does :: ((g i).o.cells++(.int .i64 (t.tab i).fails :: .int .i64 (t.tab i).mM :: (g i).sp :: kM (t.tab i).num))) (q:=pW (t.tab i).iI) (q':=pW r) (r:=[])
  rfl rfl rfl
 have q3:=q2.1.B' hi (j:=0) ag (.int .i64 3) (x:={t.tab i with iI:=r,does:=3}) (w:=g i) (by simp only[mD,dY];rfl);have Ec:=q2.2.trans q3.2;obtain⟨c,Hs,_⟩:=h1.eG;refine⟨?_,Ec,?_,q2.1.free,h1.there ab⟩
 ·refine di.asm (q3.1.same (t':=t.put i {t.tab i with iI:=r,seen:=x',does:=3}) rfl (fun n hn=>?_) rfl) (h2.sub (Nh rfl fun n hn vN=>?_)) h3 (fun n hn vN=>?_) (fun n hn vN=>?_) Hs Ec kR cN
  ·by_cases e:n=i
   ·subst e;simp only[mD,dY];rfl
   ·simp[gB.put,e]
  ·by_cases e:n=i
   ·subst e;simp[gB.put,hd]
   ·simp only[gB.put,ar e]at vN ⊢;exact⟨vN,trivial⟩
  ·by_cases e:n=i
   ·subst e;simp only[mD,dY];exact h4 n hn ab
   ·simp only[gB.put,ar e]at vN ⊢;exact h4 n hn vN
  ·by_cases e:n=i
   ·subst e;simp only[dY];exact h5 n hn (Or.inl hd)
   ·simp only[gB.put,ar e]at vN ⊢;exact h5 n hn vN
 ·exact q2.1.tab i hi 0 (.int .i64 (t.tab i).does) (by simp only[mD,dY];rfl)
end
section
variable {xw : Option (Nat × d_)} {a U U' : World} {T : Nat} {t : gB}
theorem Lc(h:di xw a U T t)(n:Int)(hk:k+2<=1000000)(hf:fP k t)(hl:t.fO.length<1000000)(Rq:∀i,i<6->(t.tab i).does=2->Zk a (t.tab i).seen (t.tab i).op) :
  aC 13 #[.pointer (some ⟨T,0,none⟩),.int .i64 n] U (oN xw a U T (jO t n)):=by
 obtain⟨x1,nz⟩:∃x1,x1=U.alloc (.cells #[.int .i64 0,.string ⟨#[]⟩,.int .i64 0] 46):=⟨_,rfl⟩;have dn:Fr aW U x1:=by rw[nz];exact(ae aW U).alloc _
 have kR0:x1.heap[U.heap.size]?=some (.cells bQ 46 (0,0)):=by rw[nz];exact aB _ _
 obtain⟨R,hR⟩:∃R,R=U.heap.size:=⟨_,rfl⟩;rw[<-hR]at kR0;have KR:=O kR0;have HR:=O hR;have HX:=O nz;have Ww:=O (eE dn);have Wz:=O (show U.heap.size<=R from ab);have WA:=O (show a.heap.size<=R by have:=h.fr.size;omega);have h1:=h.dt dn;have H1:=O h1;have HF:=O hf;have HK:=O hk;clear nz kR0 hR;cases hn:vX n
 ·as_aux_lemma =>
   have HE:=O (show jO t n=(t,rep 0,false,2)by unfold jO;rw[hn];rfl);have HC:=O (Hh x1 T hn);clear hn h h1 hf hk hl Rq dn;go_enter func13,ntmps13;go_wp2_with fail
   rw[<-HX.o, <-HR.o];refine HC.o.mono ?_;rintro e u⟨rfl,rfl⟩;unfold zy;go_wp2_with (first|((with_reducible refine cP 46 ?_);refine aF rfl 46 (.tmp 4) (.tmp 17) rfl R #[.int .i64 0,.string ⟨#[]⟩,.int .i64 0] rfl rfl _ bQ KR.o (bd _ rfl) rfl bX ?_)|fail)
   refine aR (jd bw _ _ R 46 #[.int .i64 0,.string ⟨#[]⟩,.int .i64 0] (0,0) _ rfl (aY _ R _ _ _ _ KR.o) underlying46 rfl (bd _ rfl)) rfl ?_;rw[HE.o];exact step_end H1.o Ww.o Wz.o WA.o KR.o _ rfl
 ·obtain⟨i,rfl,hi⟩:=Ca hn;have e1:((i:Int)).toNat=i:=rfl;have HC:=O (Ng x1 T hi);have HI:=O hi;obtain⟨cd,Hu,VK, -, -⟩:=h1.cells hi;have hdo:=hf.does i;by_cases hd:(t.tab i).does=0
  ·as_aux_lemma =>
    have HE:=O (show jO t (i:Int)=(t,rep 0,false,8)by unfold jO;rw[hn,aA rfl,e1,aA hd]);rw[hd]at cd;clear hn h h1 hf hk hl Rq dn hd hdo hi Hu VK;go_enter func13,ntmps13;go_wp2_with fail
    rw[<-HX.o, <-HR.o];refine HC.o.mono ?_;rintro e u⟨rfl,rfl⟩;go_wp2_with (first|((with_reducible refine cP 46 ?_);refine aF rfl 46 (.tmp 4) (.tmp 39) rfl R #[.int .i64 0,.string ⟨#[]⟩,.int .i64 0] rfl rfl _ bQ KR.o (bd _ rfl) rfl bX ?_)|fail)
    refine aR (jd bw _ _ R 46 #[.int .i64 0,.string ⟨#[]⟩,.int .i64 0] (0,0) _ rfl (aY _ R _ _ _ _ KR.o) underlying46 rfl (bd _ rfl)) rfl ?_;rw[HE.o];exact step_end H1.o Ww.o Wz.o WA.o KR.o _ rfl
  ·rcases(show(t.tab i).does=1\/(t.tab i).does=2\/(t.tab i).does=3 from ab)with Bo|tO|hd3
   ·skip
    have HE:=O (show jO t (i:Int)=({(t.put i {t.tab i with seen:=t.w,num:=t.num,does:=2})with steps:=t.steps+1},rep 0,false,0)by unfold jO;rw[hn,aA rfl,e1,ar hd,step1 Bo]);rw[Bo]at cd;have hkr:x1.drew.heap[R]?=some (.cells bQ 46 (0,0)):=KR.o;have h2:=h1.dt (az (ae aW x1));obtain⟨B,g,sv,sb,p1,p2,p3,p4⟩:=h2.ex;obtain⟨pv,hw⟩:=p2.at (i:=6) (B:=B) (x:=t.w) rfl;have RV:=O (AA _ _ _ _ _ hw hf.inv.rf)
    have Uq:=O (fun U' C qv hF hc hn=>Ro (U':=U') (C:=C) (qv:=qv) hi p1 p2 p3 p4 ab h2.low h2.fr hF hc hn);have TN:=O p1;have m0:=p1.main;have mn:=p1.num;clear hn h h1 hf hk hl Rq dn hd hdo hi Hu VK hw p1 p2 p3 p4 h2 hkr;go_enter func13,ntmps13;go_wp2_with fail
    rw[<-HX.o, <-HR.o];refine HC.o.mono ?_;rintro e u⟨rfl,rfl⟩;go_wp2_with fail
    refine wp_region_held_drew (S:=(fun V=>V.cell? ⟨T,0,none⟩=some (.pointer (some ⟨B,0,none⟩))/\V.rangeAt T 1 (kM t.num))) af (by exact⟨m0,mn⟩) ?_;intro yl;refine aO 0 43 rfl ?_;refine aO 1 44 rfl ?_;refine aO 2 45 rfl ?_;refine aO 3 46 rfl ?_;refine aO 4 47 rfl ?_;refine aO 5 48 rfl ?_;refine aO 6 49 rfl ?_;refine aO 8 51 rfl ?_;refine aO 9 52 rfl ?_;refine aO 10 53 rfl ?_
    refine uz 11 54 rfl (fR bw 73 (.tmp 53) rfl T 1 rfl (kM t.num) _ (fun w hw=>hw.2) underlying73 rfl af) ?_
    try simp only[Act.put,sA,sB,sC]
    refine eK 7 rfl fun K hK=>?_;go_simp;refine RV.o.mono ?_;rintro e u2⟨C,qv,rfl,hc,zP,GF⟩;have q:=Uq.o u2 C qv zP hc GF;obtain⟨q1,q2,q3,q4,q5⟩:=q;have Ly:=O q1;have YB:=O q2;have HTH:=O q5;have b2:=TN.o.fr zP id;have d25:u2.cell? ⟨T,17+i*45+25,none⟩=some (g i).sp:=b2.tab i HI.o 25 _ rfl;have f25:=b2.free (17+i*45+25);have qg:=O b2;have Uu:=O zP;rw[Bo]at q3
    have HS:=O (show u2.cell? ⟨T,0,none⟩=some (.pointer (some ⟨B,0,none⟩))/\u2.rangeAt T 1 (kM t.num)from⟨b2.main,b2.num⟩);refine hK.out _ _ HS.o ?_;intro wU;clear hK K q1 q2 q5 hc zP GF b2
    try simp only[Act.put,sA,sB,sC]
    refine aO 12 55 rfl ?_;refine aO 13 56 rfl ?_;clear yl wU;refine eK 14 rfl fun K hK=>?_;go_simp;have Bj:(u2.setCell ⟨T,17+i*45+25,none⟩ (.pointer (some ⟨C,0,none⟩))).cell? ⟨T,0,none⟩=some (.pointer (some ⟨B,0,none⟩))/\(u2.setCell ⟨T,17+i*45+25,none⟩ (.pointer (some ⟨C,0,none⟩))).rangeAt T 1 (kM t.num):=⟨eQ (vs:=[_]) HS.o.1 (Or.inl ab),yg HS.o.2 (by rw[nu];omega)⟩;refine hK.out _ _ Bj ?_;intro EA
    clear hK K d25 f25 EA;generalize u2.setCell ⟨T,17+i*45+25,none⟩ (.pointer (some ⟨C,0,none⟩))=u3 at *
    try simp only[Act.put,sA,sB,sC]
    refine aO 15 57 rfl ?_;refine aO 16 58 rfl ?_;refine wpAnyH_ready (rs:=[17]) af aQ ?_;refine AllReadyH.cons (o:=⟨none,_,_,_,_,_⟩) rfl (fun K hK=>?_) AllReadyH.nil;refine rJ rfl 73 (.tmp 58) (.tmp 54) rfl T (17+i*45+26) (kM t.num).toArray rfl rfl HTH.o af (VI t.num) ?_
    have Aw:(u3.setCells T (17+i*45+26) (kM t.num)).cell? ⟨T,0,none⟩=some (.pointer (some ⟨B,0,none⟩))/\(u3.setCells T (17+i*45+26) (kM t.num)).rangeAt T 1 (kM t.num):=⟨eQ Bj.1 (Or.inl ab),bV Bj.2 T _ _ (Or.inr (Or.inl (by rw[nu];omega)))⟩;refine hK.out _ _ Aw ?_;intro hS5;clear hK K hS5 Bj;rw[show(kM t.num).toArray.toList=kM t.num from rfl];generalize u3.setCells T (17+i*45+26) (kM t.num)=u4 at *
    try simp only[Act.put,sA,sB,sC]
    refine aO 18 59 rfl ?_;refine aO 19 60 rfl ?_;refine wpAnyH_ready (rs:=[20]) af aQ ?_;have q4':=q4 (17+i*45);have HS4:=O Aw;clear q4;have Wh:u4.there T (17+i*45) 1:=fun j hj=>by
     have e:j=0:=ab;subst e;exact⟨by rw[Nat.add_zero,q3];rfl,q4'⟩
    refine AllReadyH.cons (o:=⟨none,_,_,_,_,_⟩) rfl (fun K hK=>?_) AllReadyH.nil;refine DX rfl 3 (.tmp 60) _ rfl T (17+i*45) (.int .i64 2) rfl rfl rfl Wh af rfl ?_;have Aw:=HS4.o
    have hS6:(u4.setCell ⟨T,17+i*45,none⟩ (.int .i64 2)).cell? ⟨T,0,none⟩=some (.pointer (some ⟨B,0,none⟩))/\(u4.setCell ⟨T,17+i*45,none⟩ (.int .i64 2)).rangeAt T 1 (kM t.num):=⟨eQ (vs:=[_]) Aw.1 (Or.inl ab),yg Aw.2 (by rw[nu];omega)⟩;refine hK.out _ _ hS6 ?_;intro hS7;clear hK K hS7 hS6 Aw HS4 q3 q4' Wh;generalize u4.setCell ⟨T,17+i*45,none⟩ (.int .i64 2)=u5 at *
    try simp only[Act.put,sA,sB,sC]
    refine wpAnyH_done af ?_ _;generalize (kM t.num).toArray=nn;have Td:gH U u5:=by
     obtain⟨c,hc,_⟩:=qg.o.eG;exact(Ww.o.trans (eE ((az (ae aW u)).trans Uu.o))).tabs hc YB.o
    have AZ:u5.heap[R]?=some (.cells bQ 46 (0,0)):=by
     obtain⟨c,hc,_⟩:=qg.o.eG;refine(((ld u).trans (eE ((az (ae aW u)).trans Uu.o))).tabs hc YB.o).block KR.o rI
    obtain⟨-, Hu,VK, -, -⟩:=Ly.o.cells HI.o;have cf:=VK 287;have s1:=HF.o.steps.1;have s2:=HF.o.steps.2;have hkk:=HK.o;have aiI:u5.cell? ⟨T,287,none⟩=some (.int .i64 t.steps):=Hu;obtain⟨tk1,VL⟩:=Ly.o.tick (t.steps+1);have HT1:=O tk1;obtain⟨cT,Hs⟩:=Ly.o.kind;have HK6:=O (Td.tabs Hs VL);have Ik:=O (VL.keep AZ (fun e=>by cases(show R=T from e);rw[Hs]at AZ;cases AZ));clear tk1 VL Td AZ Hs Hu VK
    go_wp2_with (first|((with_reducible refine cP 46 ?_);refine aF rfl 46 (.tmp 4) (.tmp 85) rfl R #[.int .i64 0,.string ⟨#[]⟩,.int .i64 0] rfl rfl _ bQ Ik.o (bd _ rfl) rfl bX ?_)|fail)
    refine aR (jd bw _ _ R 46 #[.int .i64 0,.string ⟨#[]⟩,.int .i64 0] (0,0) _ rfl (aY _ R _ _ _ _ Ik.o) underlying46 rfl (bd _ rfl)) rfl ?_;rw[HE.o];exact step_end HT1.o HK6.o Wz.o WA.o Ik.o _ rfl
   ·as_aux_lemma =>
     have HE:=O (show jO t (i:Int)=({(t.put i {t.tab i with iI:=(mX (t.tab i).seen (t.tab i).op).2,seen:=(mX (t.tab i).seen (t.tab i).op).1,does:=3})with steps:=t.steps+1},rep 0,false,0)by unfold jO;rw[hn,aA rfl,e1,ar hd,step2 tO]);rw[tO]at cd;have h2:=h1.dt (az (ae aW x1));obtain⟨B,g,sv,sb,p1,p2,p3,p4⟩:=h2.ex;obtain⟨go1,go2⟩:=((p4 i hi).1 ab).fits;have p9:=(p4 i hi).2 (Or.inl tO)
     have HDO:=O (di.seen hi (Or.inl tO) p1 p2 p3 p4 h2.low h2.fr (x':=(mX (t.tab i).seen (t.tab i).op).1) (fun pv hw=>by
      exact Rq i hi tO _ _ pv _ _ go2 hw h2.fr go1))
     have HWK:=O (fun U' q1 q2 q3 q4 q5=>Rp (U:=U') (B:=B) (xw:=xw) (a:=a) (g:=g) (sv:=sv) (sb:=sb) (x':=(mX (t.tab i).seen (t.tab i).op).1) (mX (t.tab i).seen (t.tab i).op).2 hi q1 q2 q3 q4 (fun n hn=>(p4 n hn).2) tO h2.low q5);have m25:x1.drew.cell? ⟨T,17+i*45+25,none⟩=some (.pointer (some ⟨sb i,0,none⟩)):=by rw[<-p9];exact p1.tab i hi 25 _ rfl
     have mop:x1.drew.rangeAt T (17+i*45+1) (g i).o.cells:=ka (p:=[.int .i64 (t.tab i).does]) (q:=(g i).o.cells) (p1.tab i hi);have xy:=O p9;have HOC:=O (show(g i).o.cells.length=22 from rfl);have TN:=O p1;obtain⟨r,hr⟩:∃r,r=(mX (t.tab i).seen (t.tab i).op).2:=⟨_,rfl⟩;rw[<-hr]at HDO HWK HE;obtain⟨oc,GD⟩:∃oc,oc=(g i).o.cells:=⟨_,rfl⟩;have HOV:=O GD;rw[<-GD]at HDO mop HOC
     clear hn h h1 hf hk hl Rq dn hd hdo hi Hu VK p1 p2 p3 p4 h2 p9 go1 go2 hr GD;go_enter func13,ntmps13;go_wp2_with fail
     rw[<-HX.o, <-HR.o];refine HC.o.mono ?_;rintro e u⟨rfl,rfl⟩;go_wp2_with fail
     refine wp_region_held_drew (S:=(fun V=>V.cell? ⟨T,17+i*45+25,none⟩=some (.pointer (some ⟨sb i,0,none⟩))/\V.rangeAt T (17+i*45+1) oc)) af (by exact⟨m25,mop⟩) ?_;intro yl;refine aO 0 63 rfl ?_;refine aO 1 64 rfl ?_;refine aO 2 65 rfl ?_;refine aO 3 66 rfl ?_;refine aO 4 67 rfl ?_;refine aO 5 68 rfl ?_;refine aO 6 69 rfl ?_;refine aO 7 70 rfl ?_;refine aO 8 71 rfl ?_
     refine uz 9 72 rfl (fR bw 33 (.tmp 71) rfl T (17+i*45+1) rfl oc _ (fun w hw=>hw.2) underlying33 rfl (by rw[HOC.o];kernel_rfl)) ?_
     try simp only[Act.put,sA,sB,sC]
     refine eK 10 rfl fun K hK=>?_;go_simp;refine HDO.o.mono ?_;rintro e u2⟨rfl,⟨y1,y2,y3,y4,y5⟩,y6⟩;obtain⟨q1,q2,q3,q4,q5⟩:=HWK.o u2 y1 y2 y3 y4 y5;have Ly:=O q1;have YB:=O q2;have HTH:=O q5;have qg:=O y1;have HY6:=O (gH.Nj y6);rw[tO]at q3
     have HS:=O (show u2.cell? ⟨T,17+i*45+25,none⟩=some (.pointer (some ⟨sb i,0,none⟩))/\u2.rangeAt T (17+i*45+1) oc from⟨by rw[<-xy.o];exact y1.tab i HI.o 25 _ rfl,by rw[HOV.o];exact ka (p:=[.int .i64 (t.tab i).does]) (q:=(g i).o.cells) (y1.tab i HI.o)⟩);refine hK.out _ _ HS.o ?_;intro wU;clear hK K q1 q2 q5 y1 y2 y3 y4 y5 y6 yl wU
     try simp only[Act.put,sA,sB,sC]
     refine aO 11 74 rfl ?_;refine aO 12 75 rfl ?_;refine wpAnyH_ready (rs:=[13]) af aQ ?_;refine AllReadyH.cons (o:=⟨none,_,_,_,_,_⟩) rfl (fun K hK=>?_) AllReadyH.nil;refine rJ rfl 46 (.tmp 75) (.tmp 73) rfl T (17+i*45+42) (pW r).toArray rfl rfl HTH.o af (VH r) ?_
     have Aw:(u2.setCells T (17+i*45+42) (pW r)).cell? ⟨T,17+i*45+25,none⟩=some (.pointer (some ⟨sb i,0,none⟩))/\(u2.setCells T (17+i*45+42) (pW r)).rangeAt T (17+i*45+1) oc:=⟨eQ HS.o.1 (Or.inl ab),bV HS.o.2 T _ _ (Or.inr (Or.inl (by rw[HOC.o];omega)))⟩;refine hK.out _ _ Aw ?_;intro hS5;clear hK K hS5;rw[show(pW r).toArray.toList=pW r from rfl];generalize u2.setCells T (17+i*45+42) (pW r)=u4 at *
     try simp only[Act.put,sA,sB,sC]
     refine aO 14 76 rfl ?_;refine aO 15 77 rfl ?_;refine wpAnyH_ready (rs:=[16]) af aQ ?_;have q4':=q4 (17+i*45);have HS4:=O Aw;clear q4 Aw;refine AllReadyH.cons rfl (fun K hK=>?_) AllReadyH.nil;go_simp;have Aw:=HS4.o
     have hS6:(u4.setCell ⟨T,17+i*45,none⟩ (.int .i64 3)).cell? ⟨T,17+i*45+25,none⟩=some (.pointer (some ⟨sb i,0,none⟩))/\(u4.setCell ⟨T,17+i*45,none⟩ (.int .i64 3)).rangeAt T (17+i*45+1) oc:=⟨eQ (vs:=[_]) Aw.1 (Or.inr (by show 17+i*45+1<=_;omega)),bV Aw.2 T (17+i*45) [_] (Or.inr (Or.inr (by show 17+i*45+1<=_;omega)))⟩;refine hK.out _ _ hS6 ?_;intro hS7;clear hK K hS7 hS6 Aw HS4 q3 q4'
     generalize u4.setCell ⟨T,17+i*45,none⟩ (.int .i64 3)=u5 at *
     refine wpAnyH_done af ?_ _;have Td:gH U u5:=by
      obtain⟨c,hc,_⟩:=qg.o.eG;exact(Ww.o.trans ((eE (az (ae aW u))).trans HY6.o)).tabs hc YB.o
     have AZ:u5.heap[R]?=some (.cells bQ 46 (0,0)):=by
      obtain⟨c,hc,_⟩:=qg.o.eG;refine(((ld u).trans ((eE (az (ae aW u))).trans HY6.o)).tabs hc YB.o).block KR.o rI
     obtain⟨-, Hu,VK, -, -⟩:=Ly.o.cells HI.o;have cf:=VK 287;have s1:=HF.o.steps.1;have s2:=HF.o.steps.2;have hkk:=HK.o;have aiI:u5.cell? ⟨T,287,none⟩=some (.int .i64 t.steps):=Hu;obtain⟨tk1,VL⟩:=Ly.o.tick (t.steps+1);have HT1:=O tk1;obtain⟨cT,Hs⟩:=Ly.o.kind;have HK6:=O (Td.tabs Hs VL);have Ik:=O (VL.keep AZ (fun e=>by cases(show R=T from e);rw[Hs]at AZ;cases AZ));clear tk1 VL Td AZ Hs Hu VK
     go_wp2_with (first|((with_reducible refine cP 46 ?_);refine aF rfl 46 (.tmp 4) (.tmp 85) rfl R #[.int .i64 0,.string ⟨#[]⟩,.int .i64 0] rfl rfl _ bQ Ik.o (bd _ rfl) rfl bX ?_)|fail)
     refine aR (jd bw _ _ R 46 #[.int .i64 0,.string ⟨#[]⟩,.int .i64 0] (0,0) _ rfl (aY _ R _ _ _ _ Ik.o) underlying46 rfl (bd _ rfl)) rfl ?_;rw[HE.o];exact step_end HT1.o HK6.o Wz.o WA.o Ik.o _ rfl
   ·as_aux_lemma =>
     have HE:=O (show jO t (i:Int)=((jc {t with steps:=t.steps+1} i).1,(jc {t with steps:=t.steps+1} i).2.1,(jc {t with steps:=t.steps+1} i).2.2,0)by unfold jO;rw[hn,aA rfl,e1,ar hd,aaV hd3]);rw[hd3]at cd;have cf:=VK 287;have s1:=hf.steps.1;have s2:=hf.steps.2;obtain⟨tk1,VL⟩:=h1.tick (t.steps+1);obtain⟨cT,Hs⟩:=h1.kind;have HCM:=O (NJ tk1 hi hd3 (show k+1<1000000 from ab) hf.tick hl)
     have HK5:=O ((eE dn).tabs Hs VL);have LA:=O (VL.keep KR.o (fun e=>by
      cases(show R=T from e);have:=KR.o;rw[Hs]at this;cases this))
     clear hn h h1 hf hl Rq dn hd hdo hi VK tk1 VL Hs;go_enter func13,ntmps13;go_wp2_with fail
     rw[<-HX.o, <-HR.o];refine HC.o.mono ?_;rintro e u⟨rfl,rfl⟩;go_wp2_with fail
     refine HCM.o.mono ?_;rintro e w6⟨rfl,z1,z2⟩;have WB:=O z1;have HZ2:=O z2;have HZR:=O (z2.block LA.o rI);clear z1 z2;generalize jc {t with steps:=t.steps+1} i=cr at *
     go_wp2_with (first|((with_reducible refine cP 46 ?_);refine aF rfl 46 (.tmp 4) (.tmp 34) rfl R #[.int .i64 cr.2.1.what,.string cr.2.1.head,.int .i64 cr.2.1.cert] rfl rfl _ bQ HZR.o (bd _ rfl) rfl bX ?_)|fail)
     refine aR (jd bw _ _ R 46 #[.int .i64 cr.2.1.what,.string cr.2.1.head,.int .i64 cr.2.1.cert] (0,0) _ rfl (aY _ R _ _ _ _ HZR.o) underlying46 rfl (bd _ rfl)) rfl ?_;rw[HE.o];exact step_end WB.o (HK5.o.trans HZ2.o) Wz.o WA.o HZR.o _ rfl
end
theorem Zk.any{x:d_}{op:kn}(hi:nr x)(ht:kL a):Zk a x op:=fun V B pv o hs ho hw hf nI=>by
 have:=Y5 hw hf hi ht nI;rw[ho]at this;exact this
theorem DZ{xw:Option (Nat×d_)}{U:World}(h:di xw a U T t)(n:Int)(hk:k+2<=1000000)(hf:fP k t)(hl:t.fO.length<1000000)(ht:kL a) :
  aC 13 #[.pointer (some ⟨T,0,none⟩),.int .i64 n] U (oN xw a U T (jO t n)) :=
 Lc h n hk hf hl (fun i _ hd=>Zk.any (hf.seen i (Or.inl hd)) ht)
section
variable {xw : Option (Nat × d_)} {a U U' : World} {T : Nat} {t : gB}
def VR(U:World)(es:List (U5×(jB×List gU)))(l i:Value)(wr:World):Prop :=
 ∃k:Nat,k<=es.length/\i=.int .i64 k/\Fr aW U wr/\∃fs:List (U5×(jB×List gU)),fs.map (·.1)=(es.take k).map (·.1)/\OwnRows U.heap.size 88 28 wr l (fs.map KA)/\∀x∈fs,jY U.heap.size wr x.2 x.1.op
theorem VS:(prog.info? 88).map (·.zero)=some (some (.agg DS)):=af
theorem Hx:(prog.info? 88).map (·.size)=some 28:=af
theorem Zo{l:aX}(h:∀u∈l,u.oneCell'=true):l.toArray.all (·.oneCell')=true:=bU h
theorem Zp{w9:World}{N:Nat}{ev:U5}{nh:Nat}{ah:eZ}{ch:Nat}(a9:eZ)(c9:Nat){y:aX}{i0:TypeInfo}(kI:i0.size=28)(hy:y=R2 ev.tab o ah nh ch ev.iI ev.mM ev.fin)(k9:w9.heap[N]?=some (.cells y.toArray 88 (0,0))){wr:World}{xs:cU}(hF:Fr aW wr w9)(hN:N=wr.heap.size)(ho:OwnRows base 88 28 wr v xs) :
  ∃(y2:aX) (W3:World),y2=R2 ev.tab o a9 nh c9 ev.iI ev.mM ev.fin/\W3=w9.setCell ⟨N,12,none⟩ (.slice a9 nh c9)/\W3.heap[N]?=some (.cells y2.toArray 88 (0,0))/\Fr (one N) w9 W3/\y2.length=28/\(∀u∈y2,u.oneCell'=true)/\Instr.fill (fun i=>some (i*i0.size,i0.size)) ((Array.range (1*i0.size)).map ((Value.agg DS).cells[· %(Value.agg DS).cells.size]!)) [(0,.agg y2.toArray)]=some y2.toArray/\OwnRows base 88 28 W3 v xs:=by
 have R0:Fr (one N) w9 (w9.setCell ⟨N,12,none⟩ (.slice a9 nh c9)):=(ae (one N) _).setCell (p:=⟨N,12,none⟩) (fun _=>rfl) _;refine⟨_,_,rfl,rfl,?_,R0,rfl,Hp _ _ _ _ _ _ _ _,by rw[kI];exact NB _ _ _ _ _ _ _ _,(ho.fr hF (fun _ _ h=>h)).fr R0 (fun b hb e=>?_)⟩
 ·rw[b_ k9,hy];rfl
 ·have:=ho.lt b hb;have e':b=N:=e;omega
theorem Rs(h:di xw a U T t)(hl:t.fO.length<1000000) :
  aC 16 #[.pointer (some ⟨T,0,none⟩)] U fun e w'=>∃sv,e=.returned sv/\qy U.heap.size w' sv t.fO/\Fr aW U w':=by
 obtain⟨B,g,sv,sb,h1,h2,⟨es,Pm,lY,BJ⟩,h4⟩:=h.ex;obtain⟨Zb,Zc,Vs⟩:=lY.form;rw[aj]at Vs;subst Vs;have an3:es.length<1000000:=by rw[<-aj (f:=(·.1)),Pm];exact hl
 have HRW:=O (fun V (hV:Fr aW U V)=>bG lY.at hV);have HOP:=O (fun V (hV:Fr aW U V) x (hx:x∈es)=>(BJ x hx).kept (kO hV));have aiO:=h1.st;obtain⟨i0,ri,oZ,kI,kS⟩:=info_parts Hq;have HES:=O Pm;clear h h1 h2 h4 Pm lY BJ;go_enter func16,ntmps16
 go_wp2_with (at_make
              refine wpList_make_own _ rfl _ _ 54 rfl U.heap.size 88 i0 (.agg DS) 28 underlying54 ri oZ kI .i64 .i64 _ es.length rfl rfl rfl (by rw[kS];omega) fl (ay _) ?_
              intro w1 qY aiP
              have Qe:Fr aW U w1:=fg (ae _ _) aiP (fun k hk=>by cases hk)
              have aiQ:=lO aiO Qe id)
 go_loopw[3,17] (VR U es) (fun _ i _=>es.length-(intOf i).toNat)
 case atStart=>exact⟨0,aS _,rfl,Qe,[],rfl,⟨aQ,qY⟩,aQ⟩
 case round =>
  obtain⟨k,hk,rfl,hF,fs,kx,cO,BJ⟩:=hrel;obtain⟨al,cl,RA⟩:=cO.form;rw[aj]at RA;subst RA;clear aiQ Qe qY aiP aiO;by_cases fx:k<es.length
  ·have dL:=HRW.o wr hF;rcases dL.2 with ⟨_,_,_,e,_⟩|⟨bk,o0,c,hf,g1,g2,g3,g4⟩
   ·have:es=[]:=by simpa using e
    subst this;exact absurd fx (cq _)
   ·rw[aj]at hf;cases hf;have hx:=List.getElem?_eq_getElem fx;generalize es[k]=x at hx;have gM:x∈es:=cA hx;have hr:wr.rangeAt bk (o0+k*28) (KA x):=fun j v hj=>g4 k (KA x) (by rw[List.getElem?_map,hx];rfl) j v hj;have HOX:=O (fun V (hV:Fr aW U V)=>HOP.o V hV x gM);obtain⟨ev,o,hs⟩:=x;have CE:=HOX.o wr hF;obtain⟨ah,ch,hh⟩:=CE.own.form;rw[aj]at hh;have rD:hs.length<100000:=CE.fit.aI.2.1
    have Lu:=O (show(es.take (k+1)).map (·.1)=(es.take k).map (·.1)++[ev]by rw[ct,hx];simp);obtain⟨y,hy⟩:∃y,y=KA (ev,(o,hs)):=⟨_,rfl⟩;rw[<-hy]at hr;have hy':y=R2 ev.tab o ah hs.length ch ev.iI ev.mM ev.fin:=hy.trans (Ho hh ev.op ev.iI ev.mM ev.fin);have HY:=O hy';have LB:=O (show y.length=28 by rw[hy];rfl)
    have HY1:=O (show∀u∈y,u.oneCell'=true by rw[hy,show KA (ev,(o,hs))=R2 ev.tab o ah hs.length ch ev.iI ev.mM ev.fin from Ho hh ev.op ev.iI ev.mM ev.fin];exact Hp _ _ _ _ _ _ _ _);have HR:=O hr;have HHH:=O hh;have GU:=O cO;have aop:=O BJ;have HF:=O hF;have TM:=O kx;obtain⟨N,hN⟩:∃N,N=wr.heap.size:=⟨_,rfl⟩;have hUN:U.heap.size<=N:=by have:=hF.size;omega
    have Il:=O (show(wr.alloc (.cells DS 88)).heap[N]?=some (.cells DS 88 (0,0))from by rw[hN];exact aB _ _);have HN:=O hN;have hke:k<es.length:=fx;clear dL hr hx hy hy' hh CE cO BJ hF kx hN g4;go_wp2_with (first
     |((with_reducible refine kA ⟨some 20,_,_,_,_,_⟩ ?_)
       refine a_ rfl 88 (.tmp 19) rfl bk (o0+k*28) rfl y _ HR.o underlying88 rfl (by rw[LB.o];exact Hx) ?_
       refine kC rfl 88 rfl (some 5) rfl DS VS N HN.o.symm ?_
       refine aF rfl 88 (.tmp 5) (.tmp 20) rfl N y.toArray rfl rfl 88 DS Il.o (by rw[ba,LB.o];exact Hx) (by have e:y.toArray.size=y.length:=rfl;rw[e,LB.o];rfl) (Zo HY1.o) ?_
       have hFW:Fr aW U ((wr.alloc (.cells DS 88)).setRow N y.toArray):=iZ (HF.o.alloc _) hUN _
       have WC:Fr aW wr ((wr.alloc (.cells DS 88)).setRow N y.toArray):=iZ ((ae aW wr).alloc _) (by rw[HN.o];exact ay _) _
       have kW:((wr.alloc (.cells DS 88)).setRow N y.toArray).heap[N]?=some (.cells y.toArray 88 (0,0)):=lK Il.o
       generalize (wr.alloc (.cells DS 88)).setRow N y.toArray=W1 at *
       have z12:W1.cell? ⟨N,12,none⟩=some (.slice ah hs.length ch):=by
         simp only[World.cell?,kW,HY.o]
         rfl
       have Ii:=O (show ox W1 (.slice ah hs.length ch) hs from by
         have q:=(HOX.o W1 hFW).fit.ef
         rw[HHH.o]at q
         exact q)
       have Z9:U.heap.size<=W1.heap.size:=hFW.size)
     |(at_builtin
       refine zA rfl _ _ rfl U.heap.size _ [] rfl (dr _ _ _ _) _ (hs.map gU.cells) rfl Ii.o bF Z9 ?_
       intro v9 w9 uJ Y9
       rw[List.nil_append]at uJ
       obtain⟨a9,c9,hv9⟩:=uJ.form
       rw[aj]at hv9
       subst hv9
       have RZ:Fr aW W1 w9:=fg (ae _ _) Y9 (fun k hk=>by cases hk)
       have k9:=RZ.keep kW id
       have z9:w9.cell? ⟨N,12,none⟩=some (.slice ah hs.length ch):=lO z12 RZ id
       have z9f:w9.frozen? ⟨N,12,none⟩=false:=by simp[World.frozen?,k9])
     |((with_reducible refine kA ⟨some 30,_,_,_,_,_⟩ ?_)
       obtain⟨y2,W3,hy2,hW3,kW2,R0,adQ,aaY,Lk,fk⟩:=Zp a9 c9 kI HY.o k9 (WC.trans RZ) HN.o GU.o
       have HY2:=O hy2
       have k9':=k9
       clear hy2 z12 z9 z9f k9
       rw[<-hW3]
       refine aJ rfl 88 (.tmp 5) rfl N rfl _ y2.toArray (0,0) _ kW2 underlying88 rfl (by rw[ba,adQ];exact Hx) ?_
       refine xu rfl 54 88 1 _ rfl (some 31) rfl y2.toArray i0 (.agg DS) [(0,.agg y2.toArray)] (by simp only[eA,cz,cY];rfl) underlying54 ri oZ (by rw[kI];decide) (by rw[kI];decide) Lk W3.heap.size rfl ?_
       have hUW:U.heap.size<=W3.heap.size:=aE Z9 (aE RZ.size R0.size)
       clear Lk)
     |(at_builtin
       refine nH rfl _ _ 54 88 rfl 28 328 (.agg DS) underlying54 Hq rfl ag ag U.heap.size (.slice al fs.length cl) (fs.map KA) rfl (fk.alloc _) W3.heap.size 1 y2 rfl adQ aaY (fun i u hi=>by rw[World.cell?_alloc_mark];simpa using hi) (by rw[aj];have q:=aq List.length TM.o;rw[aj,aj,aL]at q;omega) bF ?_
       intro v' w4 eU Bt)
     |fail)
    have RQ:Fr (own (.slice al fs.length cl)) W3 w4:=fg ((ae (own (.slice al fs.length cl)) W3).alloc _) Bt (fun k hk _=>hk);have Xs:jY U.heap.size w9 ({o with aI:={o.aI with ef:=.slice a9 hs.length c9}},hs) ev.op:=by
     have q:=HOX.o w9 (hFW.trans RZ);exact⟨{q.fit with ef:=uJ.at},q.is,uJ⟩
    have key:∀ {x:jB×List gU} {p:kn},jY U.heap.size w9 x p->jY U.heap.size w4 x p:=fun q=>by
     have q3:=q.one (k9') ag R0;exact q3.rows (q3.own.fr RQ fun b hb QZ=>by
      obtain⟨c',Wl⟩:=fk.AY QZ;exact q3.own.not Wl ag hb)
    have aaZ:VR U es v' (.int .i64 ((k+1:Nat):Int)) w4:=by
     refine⟨k+1,ab,rfl,?_,fs++[(ev,({o with aI:={o.aI with ef:=.slice a9 hs.length c9}},hs))],?_,?_,fun x hx=>?_⟩
     ·refine((hFW.trans RZ).step R0 (fun k hk e=>?_)).step RQ (fun k hk e=>?_)
      ·have e':k=N:=e;omega
      ·have:=fk.block k e;omega
     ·rw[bD,TM.o,Lu.o];rfl
     ·rw[bD,cz,cY,show KA (ev,({o with aI:={o.aI with ef:=.slice a9 hs.length c9}},hs))=R2 ev.tab o a9 hs.length c9 ev.iI ev.mM ev.fin from Ho (o:={o with aI:={o.aI with ef:=.slice a9 hs.length c9}}) rfl ev.op ev.iI ev.mM ev.fin, <-HY2.o];exact eU
     ·rcases bP.1 hx with hx|hx
      ·exact key ((aop.o x hx).kept (kO (WC.trans RZ)))
      ·rcases cV.1 hx with rfl
       exact key Xs
    have aoq:=O aaZ;clear aaZ key Xs RQ eU Bt fk R0 kW2 aaY adQ hW3;go_wp2;go_roundw
    case rel =>
     obtain⟨k',r1,r2,r3⟩:=aoq.o;exact⟨k',r1,r2.trans bw,r3⟩
    case measure=>simp[intOf];omega
  ·have HE:=O (show fs.map (·.1)=t.fO by rw[kx,aD ab,HES.o]);have HO:=O cO;have HP:=O BJ;have PH:=O hF;clear cO BJ kx hF;go_wp2;go_ret;exact⟨_,rfl,⟨fs,HE.o,HO.o,HP.o⟩,PH.o⟩
end
def sV.dP(m:sV):Wu:=⟨m.kind,m.tab,m.o.dP m.hs⟩
def rK:bS:= #[.int .i64 0,.int .i64 0,.int .i64 0,.int .i64 0,.bool false,.string ⟨#[]⟩,.int .i64 0,.bool false,.string ⟨#[]⟩,.int .i64 0,.string ⟨#[]⟩,.string ⟨#[]⟩,.string ⟨#[]⟩,.slice none 0 0,.bool false,.string ⟨#[]⟩,.bool false,.string ⟨#[]⟩,.string ⟨#[]⟩,.string ⟨#[]⟩,.string ⟨#[]⟩,.int .i64 0,.bool false,.int .i64 0]
theorem zL:(prog.info? 50).map (·.zero)=some (some (.agg rK)):=af
theorem sF:(prog.info? 50).map (·.size)=some 24:=af
theorem D4(t:gB)(m:Wu):(sx t m).fO.length<=t.fO.length+1:=by
 unfold sx;split
 ·rw[F'];omega
 ·split
  ·rw[Rr];omega
  ·split
   ·exact yi _ _
   ·omega
theorem fP.move(h:fP k t)(m:Wu)(ho:m.op.user.size<=5000/\m.op.pass.size<=5000/\m.op.path.size<=5000):fP (k+2) (sx t m):=by
 unfold sx;split
 ·exact(h.mM m.tab m.op ho).mono ab
 ·split
  ·exact(h.cancel m.tab).mono ab
  ·split
   ·exact h.step m.tab
   ·exact h.mono ab
theorem Lj(l:List Wu)(m:Wu):yd (l++[m])=sx (yd l) m:=by unfold yd;simp
theorem Pc(l:List Wu)(ho:∀m∈l,m.op.user.size<=5000/\m.op.pass.size<=5000/\m.op.path.size<=5000):fP (2*l.length) (yd l)/\(yd l).fO.length<=l.length:=by
 have key:∀k,k<=l.length->fP (2*(k:Int)) (yd (l.take k))/\(yd (l.take k)).fO.length<=k:=by
  intro k
  induction k with
  |zero=>exact fun _=>⟨fP.new,ay _⟩
  |succ k ih =>
   intro hk;obtain⟨i1,i2⟩:=ih ab;have hx:=List.getElem?_eq_getElem (show k<l.length from ab);rw[ct,hx,Option.toList_some,Lj];refine⟨?_,?_⟩
   ·have:=i1.move (l[k]) (ho _ (bL _));rw[show(2*((k+1:Nat):Int))=2*(k:Int)+2 from ab];exact this
   ·have:=D4 (yd (l.take k)) l[k];omega
 have:=key l.length (ay _);rw[List.take_length]at this;exact this
theorem zM(h:gL w o hs):(o.dP hs).user.size<=5000/\(o.dP hs).pass.size<=5000/\(o.dP hs).path.size<=5000:=⟨h.user,h.pass,by have:=h.path;show o.aI.path.size<=5000;omega⟩
theorem AG(h:gL w o hs)(hT:w.heap.size<=T):hs≠ []->∀b,o.aI.ef.ownBlock=some b->b≠T:=by
 intro hne b hb;rcases h.ef.2 with ⟨_,_,_,e,_⟩|⟨bk,o',c,e,_,_,hl,_⟩
 ·exact absurd (by simpa using e) hne
 ·rw[e]at hb;have hb':some bk=some b:=hb;cases hb';omega
section
variable {xw : Option (Nat × d_)} {a U U' : World} {T : Nat} {t : gB}
def adN(a:World)(T:Nat)(ms:List sV)(i:Value)(wr:World):Prop:=∃k:Nat,k<=ms.length/\i=.int .i64 k/\di none a wr T (yd ((ms.take k).map sV.dP))
theorem Zn(hf:Fr aW a U){ms:List sV}(hm:uC a v ms)(hl:ms.length<1000)(ht:kL a) :
  aC 10 #[v] U fun e w'=>∃T,e=.returned (.pointer (some ⟨T,0,none⟩))/\di none a w' T (yd (ms.map sV.dP)):=by
 obtain⟨av,cv,hv⟩:=hm.rows.form;rw[aj]at hv;subst hv;have HM:=O hm;have BL:=O (fun k (hk:k<=ms.length)=>Pc ((ms.take k).map sV.dP) (fun m LL=>by
  obtain⟨x,hx,rfl⟩:=cj.1 LL;exact zM (hm.fit x (ew hx))))
 have HN:=O (Lb hf);clear hm hf;go_enter func10,ntmps10;go_wp2_with fail
 refine HN.o.mono ?_;rintro e u⟨T,rfl,h0, -⟩;clear HN;go_wp2;go_loopw[9] (adN a T ms) (fun i _=>ms.length-(intOf i).toNat)
 case atStart=>exact⟨0,aS _,rfl,h0⟩
 case round =>
  obtain⟨k,hk,rfl,hT⟩:=hrel;clear h0;by_cases fx:k<ms.length
  ·have dL:=(HM.o.dt hT.fr).rows;rcases dL.2 with ⟨_,_,_,e,_⟩|⟨bk,o0,c,hf,g1,g2,g3,g4⟩
   ·have:ms=[]:=by simpa using e
    subst this;exact absurd fx (cq _)
   ·rw[aj]at hf;cases hf;have hx:=List.getElem?_eq_getElem fx;generalize ms[k]=x at hx;have gM:x∈ms:=cA hx;have hr:wr.rangeAt bk (o0+k*24) x.cells:=fun j v hj=>g4 k x.cells (by rw[List.getElem?_map,hx];rfl) j v hj;have nI:=HM.o.fit x gM;obtain⟨kd,tb,o,hs⟩:=x;have HR:=O hr;obtain⟨y,hy⟩:∃y,y=sV.cells ⟨kd,tb,o,hs⟩:=⟨_,rfl⟩;obtain⟨ah,ch,hh⟩:=nI.gO;have LB:=O (show y.length=24 by rw[hy];rfl)
    have HY1:=O (show∀u∈y,u.oneCell'=true by
     rw[hy];intro u hu;rcases bu.1 hu with rfl|hu
     ·rfl
     ·rcases bu.1 hu with rfl|hu
      ·rfl
      ·exact O7 o (by rw[hh];rfl) u hu)
    rw[<-hy]at HR;have Lu:=O (show yd ((ms.take (k+1)).map sV.dP)=sx (yd ((ms.take k).map sV.dP)) ⟨kd,tb,o.dP hs⟩by rw[ct,hx,Option.toList_some,bD];exact Lj _ _);obtain⟨N,hN⟩:∃N,N=wr.heap.size:=⟨_,rfl⟩;have hUN:a.heap.size<=N:=by have:=hT.fr.size;omega
    have Il:=O (show(wr.alloc (.cells rK 50)).heap[N]?=some (.cells rK 50 (0,0))from by rw[hN];exact aB _ _);have HN:=O hN;have HT:=O hT;have aon:=O (fun V (hV:Fr aW a V)=>nI.dt hV);have HOLD:=O (AG nI hT.low);have HNL:=O nI.aI.2.1;have HY:=O hy;clear dL hr hx hy nI hT hN g4 hh;by_cases lI:kd=1
    ·as_aux_lemma =>
      subst lI;go_wp2_with (first
       |((with_reducible refine kA ⟨some 12,_,_,_,_,_⟩ ?_)
         refine a_ rfl 50 (.tmp 11) rfl bk (o0+k*24) rfl y _ HR.o underlying50 rfl (by rw[LB.o];exact sF) ?_
         refine kC rfl 50 rfl (some 5) rfl rK zL N HN.o.symm ?_
         refine aF rfl 50 (.tmp 5) (.tmp 12) rfl N y.toArray rfl rfl 50 rK Il.o (by rw[ba,LB.o];exact sF) (by have e:y.toArray.size=y.length:=rfl;rw[e,LB.o];rfl) (bU HY1.o) ?_
         have WC:Fr aW wr ((wr.alloc (.cells rK 50)).setRow N y.toArray):=iZ ((ae aW wr).alloc _) (by rw[HN.o];exact ay _) _
         have kW:((wr.alloc (.cells rK 50)).setRow N y.toArray).heap[N]?=some (.cells y.toArray 50 (0,0)):=lK Il.o
         generalize (wr.alloc (.cells rK 50)).setRow N y.toArray=W1 at *
         have z0:W1.cell? ⟨N,0,none⟩=some (.int .i64 1):=by
           simp only[World.cell?,kW,HY.o]
           rfl
         have z1:W1.cell? ⟨N,1,none⟩=some (.int .i64 tb):=by
           simp only[World.cell?,kW,HY.o]
           rfl
         have oP:W1.rangeAt N 2 o.cells:=by
           have q:=Bm kW
           rw[HY.o]at q
           exact ka (p:=[_,_]) (q:=o.cells) (r:=[]) (by rw[dI];exact q)
         have hT1:=HT.o.dt WC)
       |((with_reducible refine dv 21 ?_);refine a_ rfl 33 (.tmp 20) rfl N 2 rfl o.cells _ oP underlying33 rfl af ?_)
       |fail)
      have HB:=O (wM hT1 tb o hs (k:=2*(ms.length:Int)) ab (by
       have q:=(BL.o k hk).1;rw[aj,aL]at q;exact q.mono ab) (aon.o _ hT1.fr) HOLD.o HNL.o)
      refine HB.o.mono ?_;rintro e w5⟨rfl,p1, -⟩;have HP:=O p1;clear p1;go_wp2;go_roundw
      case rel=>exact⟨k+1,ab,bf,by rw[Lu.o];exact HP.o⟩
      case measure=>simp[intOf];omega
    ·by_cases rM:kd=2
     ·as_aux_lemma =>
       subst rM;go_wp2_with (first
        |((with_reducible refine kA ⟨some 12,_,_,_,_,_⟩ ?_)
          refine a_ rfl 50 (.tmp 11) rfl bk (o0+k*24) rfl y _ HR.o underlying50 rfl (by rw[LB.o];exact sF) ?_
          refine kC rfl 50 rfl (some 5) rfl rK zL N HN.o.symm ?_
          refine aF rfl 50 (.tmp 5) (.tmp 12) rfl N y.toArray rfl rfl 50 rK Il.o (by rw[ba,LB.o];exact sF) (by have e:y.toArray.size=y.length:=rfl;rw[e,LB.o];rfl) (bU HY1.o) ?_
          have WC:Fr aW wr ((wr.alloc (.cells rK 50)).setRow N y.toArray):=iZ ((ae aW wr).alloc _) (by rw[HN.o];exact ay _) _
          have kW:((wr.alloc (.cells rK 50)).setRow N y.toArray).heap[N]?=some (.cells y.toArray 50 (0,0)):=lK Il.o
          generalize (wr.alloc (.cells rK 50)).setRow N y.toArray=W1 at *
          have z0:W1.cell? ⟨N,0,none⟩=some (.int .i64 2):=by
            simp only[World.cell?,kW,HY.o]
            rfl
          have z1:W1.cell? ⟨N,1,none⟩=some (.int .i64 tb):=by
            simp only[World.cell?,kW,HY.o]
            rfl
          have oP:W1.rangeAt N 2 o.cells:=by
            have q:=Bm kW
            rw[HY.o]at q
            exact ka (p:=[_,_]) (q:=o.cells) (r:=[]) (by rw[dI];exact q)
          have hT1:=HT.o.dt WC)
        |fail)
       have HB:=O (Nx hT1 tb (k:=2*(ms.length:Int)) ab (by
        have q:=(BL.o k hk).1;rw[aj,aL]at q;exact q.mono ab))
       refine HB.o.mono ?_;rintro e w5⟨rfl,p1, -⟩;have HP:=O p1;clear p1;go_wp2;go_roundw
       case rel=>exact⟨k+1,ab,bf,by rw[Lu.o];exact HP.o⟩
       case measure=>simp[intOf];omega
     ·by_cases LY:kd=0
      ·as_aux_lemma =>
        subst LY;go_wp2_with (first
         |((with_reducible refine kA ⟨some 12,_,_,_,_,_⟩ ?_)
           refine a_ rfl 50 (.tmp 11) rfl bk (o0+k*24) rfl y _ HR.o underlying50 rfl (by rw[LB.o];exact sF) ?_
           refine kC rfl 50 rfl (some 5) rfl rK zL N HN.o.symm ?_
           refine aF rfl 50 (.tmp 5) (.tmp 12) rfl N y.toArray rfl rfl 50 rK Il.o (by rw[ba,LB.o];exact sF) (by have e:y.toArray.size=y.length:=rfl;rw[e,LB.o];rfl) (bU HY1.o) ?_
           have WC:Fr aW wr ((wr.alloc (.cells rK 50)).setRow N y.toArray):=iZ ((ae aW wr).alloc _) (by rw[HN.o];exact ay _) _
           have kW:((wr.alloc (.cells rK 50)).setRow N y.toArray).heap[N]?=some (.cells y.toArray 50 (0,0)):=lK Il.o
           generalize (wr.alloc (.cells rK 50)).setRow N y.toArray=W1 at *
           have z0:W1.cell? ⟨N,0,none⟩=some (.int .i64 0):=by
             simp only[World.cell?,kW,HY.o]
             rfl
           have z1:W1.cell? ⟨N,1,none⟩=some (.int .i64 tb):=by
             simp only[World.cell?,kW,HY.o]
             rfl
           have oP:W1.rangeAt N 2 o.cells:=by
             have q:=Bm kW
             rw[HY.o]at q
             exact ka (p:=[_,_]) (q:=o.cells) (r:=[]) (by rw[dI];exact q)
           have hT1:=HT.o.dt WC)
         |fail)
        have HB:=O (DZ hT1 tb (k:=2*(ms.length:Int)) ab (by
         have q:=(BL.o k hk).1;rw[aj,aL]at q;exact q.mono ab) (by
         have q:=(BL.o k hk).2;rw[aj,aL]at q;omega) ht)
        refine HB.o.mono ?_;rintro e w5⟨rfl,p1, -⟩;have HP:=O p1;clear p1;go_wp2;go_roundw
        case rel=>exact⟨k+1,ab,bf,by rw[Lu.o];exact HP.o⟩
        case measure=>simp[intOf];omega
      ·as_aux_lemma =>
        have U_:=O (show sx (yd ((ms.take k).map sV.dP)) ⟨kd,tb,o.dP hs⟩=yd ((ms.take k).map sV.dP)by unfold sx;rw[ar lI,ar rM,ar LY]);go_wp2_with (first
         |((with_reducible refine kA ⟨some 12,_,_,_,_,_⟩ ?_)
           refine a_ rfl 50 (.tmp 11) rfl bk (o0+k*24) rfl y _ HR.o underlying50 rfl (by rw[LB.o];exact sF) ?_
           refine kC rfl 50 rfl (some 5) rfl rK zL N HN.o.symm ?_
           refine aF rfl 50 (.tmp 5) (.tmp 12) rfl N y.toArray rfl rfl 50 rK Il.o (by rw[ba,LB.o];exact sF) (by have e:y.toArray.size=y.length:=rfl;rw[e,LB.o];rfl) (bU HY1.o) ?_
           have WC:Fr aW wr ((wr.alloc (.cells rK 50)).setRow N y.toArray):=iZ ((ae aW wr).alloc _) (by rw[HN.o];exact ay _) _
           have kW:((wr.alloc (.cells rK 50)).setRow N y.toArray).heap[N]?=some (.cells y.toArray 50 (0,0)):=lK Il.o
           generalize (wr.alloc (.cells rK 50)).setRow N y.toArray=W1 at *
           have z0:W1.cell? ⟨N,0,none⟩=some (.int .i64 kd):=by
             simp only[World.cell?,kW,HY.o]
             rfl
           have z1:W1.cell? ⟨N,1,none⟩=some (.int .i64 tb):=by
             simp only[World.cell?,kW,HY.o]
             rfl
           have oP:W1.rangeAt N 2 o.cells:=by
             have q:=Bm kW
             rw[HY.o]at q
             exact ka (p:=[_,_]) (q:=o.cells) (r:=[]) (by rw[dI];exact q)
           have hT1:=HT.o.dt WC)
         |fail)
        have HP:=O hT1;go_roundw
        case rel=>exact⟨k+1,ab,bf,by rw[Lu.o,U_.o];exact HP.o⟩
        case measure=>simp[intOf];omega
  ·have HE:=O (show(ms.take k).map sV.dP=ms.map sV.dP by rw[aD ab]);have HT:=O hT;clear hT;go_wp2;go_ret;rw[HE.o]at HT;exact⟨T,rfl,HT.o⟩
end
