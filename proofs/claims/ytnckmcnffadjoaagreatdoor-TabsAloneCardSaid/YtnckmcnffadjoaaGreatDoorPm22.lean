/- Lemmas for the law's walk. -/
import Derived.Test.YtnckmcnffadjoaaGreatDoorPm12
set_option maxRecDepth 100000
set_option maxHeartbeats 16000000
set_option linter.unusedSimpArgs false
namespace Go.Proofs.YtnckmcnffadjoaaGreatDoor
open Go.Proofs.Tryz
open Go.RowKit
theorem V0(fQ:Int)(aK bq cy eH user pass method target body bL:aj)(cA cN:Bool)(dom:Value)(k:Nat)(w:World)(eb:dom.oneCell'=true)
  (hq:eH=⟨#[]⟩)(hs:fQ=2\/fQ=3)(mf:1<=k)(rZ:k<=4294967295)
  (x1:aK.size<=5000)(x2:bq.size<=5000)(x3:cy.size<=5000)(x4:user.size<=5000)(x5:pass.size<=5000)(x6:method.size<=5000)(x7:target.size<=5000)(x8:body.size<=5000)(x9:bL.size<=5000)
  (Nv:oP w 9 .u8 Tr)(hh:tz fQ w) :
  aB 50 #[.agg #[.int .i64 fQ,.string aK,.string bq,.string cy,.bool cA,.string eH,.bool cN,dom],.agg #[.string user,.string pass],.string method,.string target,.string body,.string bL,.int .i64 (k:Int)] w (Ij fQ cy ⟨decide (fQ=3),cA,aK,bq,eH,user,pass,method,target,body,bL,k⟩ k w):=by
 obtain⟨x,hx⟩:∃x:nU,x=⟨decide (fQ=3),cA,aK,bq,eH,user,pass,method,target,body,bL,k⟩:=⟨_,rfl⟩;have xq:eH.size<=5000:=by rw[hq];decide
 have pj:x.Small:=by rw[hx];exact⟨by show aK.size<=_;omega,by show bq.size<=_;omega,by show eH.size<=_;omega,by show user.size<=_;omega,by show pass.size<=_;omega,by show method.size<=_;omega,by show target.size<=_;omega,by show body.size<=_;omega,by show bL.size<=_;omega,by show k<_;omega⟩
 rw[<-hx];have aev:=O (show∀U,Fr aS w U->aB 102 #[.agg #[.int .i64 fQ,.string aK,.string bq,.string cy,.bool cA,.string eH,.bool cN,dom],.agg #[.string user,.string pass],.string method,.string target,.string body,.string bL,.int .i64 (k:Int)] U fun e w'=>e=.returned (.string (og x))/\Fr aS U w' from fun U hU=>by
  have:=zu ⟨fQ,aK,bq,cy,cA,eH,cN,dom⟩ x U pj (by rw[hx]) (by rw[hx]) (by rw[hx]) (by rw[hx]) (by rw[hx]) eb (Nv.fr hU) (hh.fr hU);rw[hx]at this ⊢;exact this)
 have ace:=O (show∀U,Fr aS w U->aB 104 #[.int .i64 (k:Int)] U fun e w'=>e=.returned (.string (bA (jD k)))/\Fr aS U w' from fun U hU=>rm k U ab (Nv.fr hU));have NAME:=O (fun U=>Kz fQ aK bq cy eH cA cN dom U);have hrs:=DB x;have HX:=O hx;have HQ:=O hq;have HS:=O hs;clear Nv hh pj
 obtain⟨w2,eE⟩:∃w2,w2=(w.alloc (.cells #[.int .i64 fQ,.string aK,.string bq,.string cy,.bool cA,.string eH,.bool cN,dom] 112)).alloc (.cells #[.string user,.string pass] 39):=⟨_,rfl⟩;have dB:Fr aS w w2:=by rw[eE];exact((ae aS w).alloc _).alloc _
 have xb:w2.heap.size=w.heap.size+2:=by rw[eE];simp
 have k1:w2.heap[w.heap.size]?=some (.cells #[.int .i64 fQ,.string aK,.string bq,.string cy,.bool cA,.string eH,.bool cN,dom] 112 (0,0)):=by rw[eE];exact((ae aS _).alloc _).keep (aC _ _) id
 have k2:w2.heap[w.heap.size+1]?=some (.cells #[.string user,.string pass] 39 (0,0)):=by
  have h:=aC (w.alloc (.cells #[.int .i64 fQ,.string aK,.string bq,.string cy,.bool cA,.string eH,.bool cN,dom] 112)) (.cells #[.string user,.string pass] 39);rw[bO]at h;rw[eE];exact h
 have HC:=O (show∀U,Below w2.heap.size w2 U->(U.cell? ⟨w.heap.size,0,none⟩=some (.int .i64 fQ)/\U.cell? ⟨w.heap.size,1,none⟩=some (.string aK)/\U.cell? ⟨w.heap.size,2,none⟩=some (.string bq)/\U.cell? ⟨w.heap.size,3,none⟩=some (.string cy)/\U.cell? ⟨w.heap.size,4,none⟩=some (.bool cA)/\U.cell? ⟨w.heap.size,5,none⟩=some (.string eH)/\U.cell? ⟨w.heap.size,6,none⟩=some (.bool cN)/\U.cell? ⟨w.heap.size,7,none⟩=some dom)/\U.cell? ⟨w.heap.size+1,0,none⟩=some (.string user)/\U.cell? ⟨w.heap.size+1,1,none⟩=some (.string pass)from fun U hU=>by
  have j1:=(hU.block w.heap.size ab).trans k1;have j2:=(hU.block (w.heap.size+1) ab).trans k2;exact⟨by simp[World.cell?,j1],by simp[World.cell?,j2]⟩)
 have rK:=O (show∀U,Below w2.heap.size w2 U->Fr aS w U from fun U hU=>dB.trans (fk hU));obtain⟨b,hb⟩:∃b,b=w2.heap.size:=⟨_,rfl⟩;obtain⟨w4,qC⟩:∃w4,w4=w2.alloc (.cells #[.pointer none,.slice none 0 0] 179):=⟨_,rfl⟩;have tV:vK b b [] w4:=by rw[qC,hb];exact Lib.IsBuilderF.of (FY.new w2)
 have hB4:Below w2.heap.size w2 w4:=by rw[qC];exact(Below.refl _ w2).alloc (ay _) _
 have hs4:w4.heap.size=b+1:=by rw[qC,hb];simp
 have nI:=O eE;have N_:=O qC;have hkk:(k:Int)<=4294967295:=ab;have QV:¬(k:Int)<1:=ab;have X4:¬(4294967295:Int)<(k:Int):=ab;obtain⟨⟨c0,c1,c2,c3,c4,c5,c6,c7⟩,d0,d1⟩:=HC.o w2 (Below.refl _ _);rw[eE]at c0 c1 c2 c3 c4 c5 c6 c7 d0 d1;clear qC hx hq dB k1 k2;have uO:=O hb;have rh:=O (show b=w.heap.size+1+1 from ab);have HB:=O hb.symm;have ZF:=O tV;have V1:=O hB4
 have HNL:=O (show(bA (px fQ cA)).size<=12 by
  show(px fQ cA).length<=12;unfold px;split<;>cases cA<;>decide)
 have Ff:=O (show(bA (jD k)).size<=8 by show(jD k).length<=8;unfold jD;rw[nS];exact ay _);clear tV hB4;obtain⟨dg,hdg⟩:∃dg,dg=zv fQ cy x:=⟨_,rfl⟩;have AA:=O hdg;clear hdg;obtain rfl:=HQ.o;rcases HS.o with hs0|hs0<;>subst hs0
 all_goals
  go_enter func50,ntmps50;go_wp2_with fail
  rw[<-nI.o, <-N_.o];rw[<-rh.o];refine(eh b b [] ⟨#[68,105,103,101,115,116,32]⟩ w4 ZF.o ag ab).mono ?_;rintro e w5⟨rfl,Fk,AY,_⟩;have hs5:=AY.size;obtain⟨d,hd⟩:∃d,d=w5.heap.size:=⟨_,rfl⟩;obtain⟨w6,zG⟩:∃w6,w6=w5.alloc (.cells #[.bool false] 4):=⟨_,rfl⟩;have CB:=O (show b<d from ab);have aew:Below w2.heap.size w2 w6:=by rw[zG];exact(V1.o.trans (uO.o▸AY)).alloc (by have:=V1.o.size;omega) _
  have S0:=O (show St b d 0 w2 [] w6 from⟨by rw[zG];exact Fk.fI ((ae aS w5).alloc _),by rw[zG,hd];exact aC _ _,aew,by rw[zG];simp;omega,ay _,ag⟩);have Q':=O zG;have B9:=O hd;clear c0 c1 c2 c3 c4 c5 c6 c7 d0 d1 Fk AY zG;obtain⟨⟨c0,c1,c2,c3,c4,c5,c6,c7⟩,d0,d1⟩:=HC.o w6 S0.o.rI;rw[Q'.o]at c0 c1 c2 c3 c4 c5 c6 c7 d0 d1;go_wp2_with fail
  rw[<-B9.o, <-Q'.o, <-rh.o];refine(lL b d 0 w2 _ _ PB _ user true rfl uO.o CB.o ag ag ab S0.o).mono ?_;rintro e W1⟨rfl,s1⟩;obtain⟨L1,l1,s1⟩:=s1.named;have S1:=O s1;have E1:=O l1;clear c0 c1 c2 c3 c4 c5 c6 c7 d0 d1 s1 l1;obtain⟨⟨c0,c1,c2,c3,c4,c5,c6,c7⟩,d0,d1⟩:=HC.o W1 S1.o.rI;go_wp2_with fail
  rw[<-B9.o, <-rh.o];refine(lL b d 1 w2 _ _ vF _ aK true rfl uO.o CB.o ag ag ab S1.o).mono ?_;rintro e W2⟨rfl,s2⟩;obtain⟨L2,l2,s2⟩:=s2.named;have S2:=O s2;have E2:=O l2;clear c0 c1 c2 c3 c4 c5 c6 c7 d0 d1 s2 l2;obtain⟨⟨c0,c1,c2,c3,c4,c5,c6,c7⟩,d0,d1⟩:=HC.o W2 S2.o.rI;go_wp2_with fail
  rw[<-B9.o, <-rh.o];refine(lL b d 2 w2 _ _ vG _ bq true rfl uO.o CB.o ag ag ab S2.o).mono ?_;rintro e W3⟨rfl,s3⟩;obtain⟨L3,l3,s3⟩:=s3.named;have S3:=O s3;have E3:=O l3;clear c0 c1 c2 c3 c4 c5 c6 c7 d0 d1 s3 l3;obtain⟨⟨c0,c1,c2,c3,c4,c5,c6,c7⟩,d0,d1⟩:=HC.o W3 S3.o.rI;go_wp2_with fail
  rw[<-B9.o, <-rh.o];refine(lL b d 3 w2 _ _ YW _ target true rfl uO.o CB.o ag ag ab S3.o).mono ?_;rintro e W4⟨rfl,s4⟩;obtain⟨L4,l4,s4⟩:=s4.named;have S4:=O s4;have E4:=O l4;clear c0 c1 c2 c3 c4 c5 c6 c7 d0 d1 s4 l4;obtain⟨⟨c0,c1,c2,c3,c4,c5,c6,c7⟩,d0,d1⟩:=HC.o W4 S4.o.rI;go_wp2_with fail
  refine(aev.o W4 (rK.o _ S4.o.rI)).mono ?_;rintro e wr⟨rfl,cL⟩;have S5:=O (S4.o.KK cL uO.o);clear c0 c1 c2 c3 c4 c5 c6 c7 d0 d1 cL;obtain⟨⟨c0,c1,c2,c3,c4,c5,c6,c7⟩,d0,d1⟩:=HC.o wr S5.o.rI;go_wp2_with fail
  rw[<-B9.o, <-rh.o];refine(lL b d 4 w2 _ _ PC _ (og x) true rfl uO.o CB.o ag ag ab S5.o).mono ?_;rintro e W6⟨rfl,s6⟩;obtain⟨L6,l6,s6⟩:=s6.named;have S6:=O s6;have E6:=O l6;clear c0 c1 c2 c3 c4 c5 c6 c7 d0 d1 s6 l6;obtain⟨⟨c0,c1,c2,c3,c4,c5,c6,c7⟩,d0,d1⟩:=HC.o W6 S6.o.rI;go_wp2_with fail
  refine(NAME.o W6).mono ?_;rintro e wn⟨rfl,Gg⟩;have S7:=O (S6.o.KK Gg uO.o);clear c0 c1 c2 c3 c4 c5 c6 c7 d0 d1 Gg;obtain⟨⟨c0,c1,c2,c3,c4,c5,c6,c7⟩,d0,d1⟩:=HC.o wn S7.o.rI;go_wp2_with fail
  rw[<-B9.o, <-rh.o];refine(lL b d 5 w2 _ _ yX _ _ false rfl uO.o CB.o ag ag (by have:=HNL.o;omega) S7.o).mono ?_;rintro e W8⟨rfl,s8⟩;obtain⟨L8,l8,s8⟩:=s8.named;have S8:=O s8;have E8:=O l8;clear c0 c1 c2 c3 c4 c5 c6 c7 d0 d1 s8 l8;obtain⟨⟨c0,c1,c2,c3,c4,c5,c6,c7⟩,d0,d1⟩:=HC.o W8 S8.o.rI;cases cA with
  |false =>
   by_cases ho:cy.data.toList.isEmpty=true
   ·have o1:cy.toList=[]:=by rw[aO];exact gF.1 ho
    have Qh:Dq cy.data.toList=[]:=by unfold Dq;rw[az ho]
    have o2:(cy.toList== [])=true:=by rw[o1];rfl
    have o3:cy.toList.isEmpty=true:=by rw[o1];rfl
    skip
    have Ee:=pN S8.o.hd;rw[B9.o]at Ee;have BV:=O (show dg.items=L8 by rw[AA.o,E8.o,E6.o,E4.o,E3.o,E2.o,E1.o,HX.o];exact(show vS _ _ _ _ _ _++(Dp _ _++(UC _ _ _++Dq cy.data.toList))=_ by rw[Qh];rfl));cases oY:ya L8 with
    |true =>
     have CH:=O (show dg.fair=false by have hb:=jN dg;rw[BV.o,oY]at hb;simpa using hb.symm);rw[oY]at Ee;go_wp2;go_ret2;exact⟨rK.o _ S8.o.rI,Or.inl ⟨AA.o▸CH.o,_,_,rfl⟩⟩
    |false =>
     rw[oY]at Ee;have r_:=O (jO (d:=dg) (by rw[BV.o];exact oY));have V2:=O (jP r_.o);go_wp2_with fail
     rw[<-rh.o];refine(Builder_String_any_k b b (vR L8) W8 (by have h:=S8.o.hb;exact h) (S8.o.sz)).mono ?_;rintro e wz⟨rfl,_,MP,_⟩;go_wp2;go_ret2;refine⟨rK.o _ ((S8.o.rI).trans (uO.o▸MP)),Or.inr ⟨ag,by rw[HX.o],by rw[HX.o];exact mf,by rw[HX.o];exact rZ,AA.o▸r_.o,?_⟩⟩;rw[<-AA.o, <-V2.o,BV.o];rfl
   ·have ER:cy.data.toList.isEmpty=false:=by simpa using ho
    have Qh:Dq cy.data.toList=[(mi,cy.data.toList,true)]:=by unfold Dq;rw[aq ho]
    have o1:¬cy.toList=[]:=by rw[aO];intro h;rw[h]at ER;cases ER
    have o2:(cy.toList== [])=false:=aL.2 o1;have o3:cy.toList.isEmpty=false:=by rw[aO];exact ER
    go_wp2_with fail
    rw[<-B9.o, <-rh.o];refine(lL b d 6 w2 _ _ mi _ cy true rfl uO.o CB.o ag ag ab S8.o).mono ?_;rintro e W9⟨rfl,s9⟩;obtain⟨L9,l9,s9⟩:=s9.named;have S9:=O s9;have E9:=O l9;clear c0 c1 c2 c3 c4 c5 c6 c7 d0 d1 s9 l9;obtain⟨⟨c0,c1,c2,c3,c4,c5,c6,c7⟩,d0,d1⟩:=HC.o W9 S9.o.rI;have Ee:=pN S9.o.hd;rw[B9.o]at Ee
    have BV:=O (show dg.items=L9 by rw[AA.o,E9.o,E8.o,E6.o,E4.o,E3.o,E2.o,E1.o,HX.o];exact(show vS _ _ _ _ _ _++(Dp _ _++(UC _ _ _++Dq cy.data.toList))=_ by rw[Qh];rfl));cases oY:ya L9 with
    |true =>
     have CH:=O (show dg.fair=false by have hb:=jN dg;rw[BV.o,oY]at hb;simpa using hb.symm);rw[oY]at Ee;go_wp2;go_ret2;exact⟨rK.o _ S9.o.rI,Or.inl ⟨AA.o▸CH.o,_,_,rfl⟩⟩
    |false =>
     rw[oY]at Ee;have r_:=O (jO (d:=dg) (by rw[BV.o];exact oY));have V2:=O (jP r_.o);go_wp2_with fail
     rw[<-rh.o];refine(Builder_String_any_k b b (vR L9) W9 (by have h:=S9.o.hb;exact h) (S9.o.sz)).mono ?_;rintro e wz⟨rfl,_,MP,_⟩;go_wp2;go_ret2;refine⟨rK.o _ ((S9.o.rI).trans (uO.o▸MP)),Or.inr ⟨ag,by rw[HX.o],by rw[HX.o];exact mf,by rw[HX.o];exact rZ,AA.o▸r_.o,?_⟩⟩;rw[<-AA.o, <-V2.o,BV.o];rfl
  |true =>
   go_wp2_with fail
   rw[<-B9.o, <-rh.o];refine(lL b d 6 w2 _ _ Cz _ bL true rfl uO.o CB.o ag ag ab S8.o).mono ?_;rintro e W10⟨rfl,s10⟩;obtain⟨L10,l10,s10⟩:=s10.named;have Ye:=O s10;have E10:=O l10;clear c0 c1 c2 c3 c4 c5 c6 c7 d0 d1 s10 l10;obtain⟨⟨c0,c1,c2,c3,c4,c5,c6,c7⟩,d0,d1⟩:=HC.o W10 Ye.o.rI;by_cases ho:cy.data.toList.isEmpty=true
   ·have o1:cy.toList=[]:=by rw[aO];exact gF.1 ho
    have Qh:Dq cy.data.toList=[]:=by unfold Dq;rw[az ho]
    have o2:(cy.toList== [])=true:=by rw[o1];rfl
    have o3:cy.toList.isEmpty=true:=by rw[o1];rfl
    skip
    have Ee:=pN Ye.o.hd;rw[B9.o]at Ee;have BV:=O (show dg.items=L10 by rw[AA.o,E10.o,E8.o,E6.o,E4.o,E3.o,E2.o,E1.o,HX.o];exact(show vS _ _ _ _ _ _++(Dp _ _++(UC _ _ _++Dq cy.data.toList))=_ by rw[Qh];rfl));cases oY:ya L10 with
    |true =>
     have CH:=O (show dg.fair=false by have hb:=jN dg;rw[BV.o,oY]at hb;simpa using hb.symm);rw[oY]at Ee;go_wp2;go_ret2;exact⟨rK.o _ Ye.o.rI,Or.inl ⟨AA.o▸CH.o,_,_,rfl⟩⟩
    |false =>
     rw[oY]at Ee;have r_:=O (jO (d:=dg) (by rw[BV.o];exact oY));have V2:=O (jP r_.o);go_wp2_with fail
     rw[<-rh.o];refine(Builder_String_any_k b b (vR L10) W10 (by have h:=Ye.o.hb;exact h) (Ye.o.sz)).mono ?_;rintro e wz⟨rfl,_,MP,_⟩;go_wp2;go_ret2;refine⟨rK.o _ ((Ye.o.rI).trans (uO.o▸MP)),Or.inr ⟨ag,by rw[HX.o],by rw[HX.o];exact mf,by rw[HX.o];exact rZ,AA.o▸r_.o,?_⟩⟩;rw[<-AA.o, <-V2.o,BV.o];rfl
   ·have ER:cy.data.toList.isEmpty=false:=by simpa using ho
    have Qh:Dq cy.data.toList=[(mi,cy.data.toList,true)]:=by unfold Dq;rw[aq ho]
    have o1:¬cy.toList=[]:=by rw[aO];intro h;rw[h]at ER;cases ER
    have o2:(cy.toList== [])=false:=aL.2 o1;have o3:cy.toList.isEmpty=false:=by rw[aO];exact ER
    go_wp2_with fail
    rw[<-B9.o, <-rh.o];refine(lL b d 7 w2 _ _ mi _ cy true rfl uO.o CB.o ag ag ab Ye.o).mono ?_;rintro e W11⟨rfl,s11⟩;obtain⟨L11,l11,s11⟩:=s11.named;have S11:=O s11;have E11:=O l11;clear c0 c1 c2 c3 c4 c5 c6 c7 d0 d1 s11 l11;obtain⟨⟨c0,c1,c2,c3,c4,c5,c6,c7⟩,d0,d1⟩:=HC.o W11 S11.o.rI;have Ee:=pN S11.o.hd;rw[B9.o]at Ee
    have BV:=O (show dg.items=L11 by rw[AA.o,E11.o,E10.o,E8.o,E6.o,E4.o,E3.o,E2.o,E1.o,HX.o];exact(show vS _ _ _ _ _ _++(Dp _ _++(UC _ _ _++Dq cy.data.toList))=_ by rw[Qh];rfl));cases oY:ya L11 with
    |true =>
     have CH:=O (show dg.fair=false by have hb:=jN dg;rw[BV.o,oY]at hb;simpa using hb.symm);rw[oY]at Ee;go_wp2;go_ret2;exact⟨rK.o _ S11.o.rI,Or.inl ⟨AA.o▸CH.o,_,_,rfl⟩⟩
    |false =>
     rw[oY]at Ee;have r_:=O (jO (d:=dg) (by rw[BV.o];exact oY));have V2:=O (jP r_.o);go_wp2_with fail
     rw[<-rh.o];refine(Builder_String_any_k b b (vR L11) W11 (by have h:=S11.o.hb;exact h) (S11.o.sz)).mono ?_;rintro e wz⟨rfl,_,MP,_⟩;go_wp2;go_ret2;refine⟨rK.o _ ((S11.o.rI).trans (uO.o▸MP)),Or.inr ⟨ag,by rw[HX.o],by rw[HX.o];exact mf,by rw[HX.o];exact rZ,AA.o▸r_.o,?_⟩⟩;rw[<-AA.o, <-V2.o,BV.o];rfl
theorem LF(fQ:Int)(aK bq cy eH user pass method target body bL:aj)(cA cN:Bool)(dom:Value)(k:Nat)(w:World)(eb:dom.oneCell'=true)
  (hq:eH=⟨#[97,117,116,104]⟩\/eH=⟨#[97,117,116,104,45,105,110,116]⟩)(hs:fQ=2\/fQ=3)(mf:1<=k)(rZ:k<=4294967295)
  (x1:aK.size<=5000)(x2:bq.size<=5000)(x3:cy.size<=5000)(x4:user.size<=5000)(x5:pass.size<=5000)(x6:method.size<=5000)(x7:target.size<=5000)(x8:body.size<=5000)(x9:bL.size<=5000)
  (Nv:oP w 9 .u8 Tr)(hh:tz fQ w) :
  aB 50 #[.agg #[.int .i64 fQ,.string aK,.string bq,.string cy,.bool cA,.string eH,.bool cN,dom],.agg #[.string user,.string pass],.string method,.string target,.string body,.string bL,.int .i64 (k:Int)] w (Ij fQ cy ⟨decide (fQ=3),cA,aK,bq,eH,user,pass,method,target,body,bL,k⟩ k w):=by
 obtain⟨x,hx⟩:∃x:nU,x=⟨decide (fQ=3),cA,aK,bq,eH,user,pass,method,target,body,bL,k⟩:=⟨_,rfl⟩;have xq:eH.size<=5000:=by rcases hq with h|h<;>rw[h]<;>decide
 have pj:x.Small:=by rw[hx];exact⟨by show aK.size<=_;omega,by show bq.size<=_;omega,by show eH.size<=_;omega,by show user.size<=_;omega,by show pass.size<=_;omega,by show method.size<=_;omega,by show target.size<=_;omega,by show body.size<=_;omega,by show bL.size<=_;omega,by show k<_;omega⟩
 rw[<-hx];have aev:=O (show∀U,Fr aS w U->aB 102 #[.agg #[.int .i64 fQ,.string aK,.string bq,.string cy,.bool cA,.string eH,.bool cN,dom],.agg #[.string user,.string pass],.string method,.string target,.string body,.string bL,.int .i64 (k:Int)] U fun e w'=>e=.returned (.string (og x))/\Fr aS U w' from fun U hU=>by
  have:=zu ⟨fQ,aK,bq,cy,cA,eH,cN,dom⟩ x U pj (by rw[hx]) (by rw[hx]) (by rw[hx]) (by rw[hx]) (by rw[hx]) eb (Nv.fr hU) (hh.fr hU);rw[hx]at this ⊢;exact this)
 have ace:=O (show∀U,Fr aS w U->aB 104 #[.int .i64 (k:Int)] U fun e w'=>e=.returned (.string (bA (jD k)))/\Fr aS U w' from fun U hU=>rm k U ab (Nv.fr hU));have NAME:=O (fun U=>Kz fQ aK bq cy eH cA cN dom U);have hrs:=DB x;have HX:=O hx;have HQ:=O hq;have HS:=O hs;clear Nv hh pj
 obtain⟨w2,eE⟩:∃w2,w2=(w.alloc (.cells #[.int .i64 fQ,.string aK,.string bq,.string cy,.bool cA,.string eH,.bool cN,dom] 112)).alloc (.cells #[.string user,.string pass] 39):=⟨_,rfl⟩;have dB:Fr aS w w2:=by rw[eE];exact((ae aS w).alloc _).alloc _
 have xb:w2.heap.size=w.heap.size+2:=by rw[eE];simp
 have k1:w2.heap[w.heap.size]?=some (.cells #[.int .i64 fQ,.string aK,.string bq,.string cy,.bool cA,.string eH,.bool cN,dom] 112 (0,0)):=by rw[eE];exact((ae aS _).alloc _).keep (aC _ _) id
 have k2:w2.heap[w.heap.size+1]?=some (.cells #[.string user,.string pass] 39 (0,0)):=by
  have h:=aC (w.alloc (.cells #[.int .i64 fQ,.string aK,.string bq,.string cy,.bool cA,.string eH,.bool cN,dom] 112)) (.cells #[.string user,.string pass] 39);rw[bO]at h;rw[eE];exact h
 have HC:=O (show∀U,Below w2.heap.size w2 U->(U.cell? ⟨w.heap.size,0,none⟩=some (.int .i64 fQ)/\U.cell? ⟨w.heap.size,1,none⟩=some (.string aK)/\U.cell? ⟨w.heap.size,2,none⟩=some (.string bq)/\U.cell? ⟨w.heap.size,3,none⟩=some (.string cy)/\U.cell? ⟨w.heap.size,4,none⟩=some (.bool cA)/\U.cell? ⟨w.heap.size,5,none⟩=some (.string eH)/\U.cell? ⟨w.heap.size,6,none⟩=some (.bool cN)/\U.cell? ⟨w.heap.size,7,none⟩=some dom)/\U.cell? ⟨w.heap.size+1,0,none⟩=some (.string user)/\U.cell? ⟨w.heap.size+1,1,none⟩=some (.string pass)from fun U hU=>by
  have j1:=(hU.block w.heap.size ab).trans k1;have j2:=(hU.block (w.heap.size+1) ab).trans k2;exact⟨by simp[World.cell?,j1],by simp[World.cell?,j2]⟩)
 have rK:=O (show∀U,Below w2.heap.size w2 U->Fr aS w U from fun U hU=>dB.trans (fk hU));obtain⟨b,hb⟩:∃b,b=w2.heap.size:=⟨_,rfl⟩;obtain⟨w4,qC⟩:∃w4,w4=w2.alloc (.cells #[.pointer none,.slice none 0 0] 179):=⟨_,rfl⟩;have tV:vK b b [] w4:=by rw[qC,hb];exact Lib.IsBuilderF.of (FY.new w2)
 have hB4:Below w2.heap.size w2 w4:=by rw[qC];exact(Below.refl _ w2).alloc (ay _) _
 have hs4:w4.heap.size=b+1:=by rw[qC,hb];simp
 have nI:=O eE;have N_:=O qC;have hkk:(k:Int)<=4294967295:=ab;have QV:¬(k:Int)<1:=ab;have X4:¬(4294967295:Int)<(k:Int):=ab;obtain⟨⟨c0,c1,c2,c3,c4,c5,c6,c7⟩,d0,d1⟩:=HC.o w2 (Below.refl _ _);rw[eE]at c0 c1 c2 c3 c4 c5 c6 c7 d0 d1;clear qC hx hq dB k1 k2;have uO:=O hb;have rh:=O (show b=w.heap.size+1+1 from ab);have HB:=O hb.symm;have ZF:=O tV;have V1:=O hB4
 have HNL:=O (show(bA (px fQ cA)).size<=12 by
  show(px fQ cA).length<=12;unfold px;split<;>cases cA<;>decide)
 have Ff:=O (show(bA (jD k)).size<=8 by show(jD k).length<=8;unfold jD;rw[nS];exact ay _);clear tV hB4;obtain⟨dg,hdg⟩:∃dg,dg=zv fQ cy x:=⟨_,rfl⟩;have AA:=O hdg;clear hdg;rcases HQ.o with hq0|hq0<;>rcases HS.o with hs0|hs0<;>subst hq0<;>subst hs0
 all_goals
  go_enter func50,ntmps50;go_wp2_with fail
  rw[<-nI.o, <-N_.o];rw[<-rh.o];refine(eh b b [] ⟨#[68,105,103,101,115,116,32]⟩ w4 ZF.o ag ab).mono ?_;rintro e w5⟨rfl,Fk,AY,_⟩;have hs5:=AY.size;obtain⟨d,hd⟩:∃d,d=w5.heap.size:=⟨_,rfl⟩;obtain⟨w6,zG⟩:∃w6,w6=w5.alloc (.cells #[.bool false] 4):=⟨_,rfl⟩;have CB:=O (show b<d from ab);have aew:Below w2.heap.size w2 w6:=by rw[zG];exact(V1.o.trans (uO.o▸AY)).alloc (by have:=V1.o.size;omega) _
  have S0:=O (show St b d 0 w2 [] w6 from⟨by rw[zG];exact Fk.fI ((ae aS w5).alloc _),by rw[zG,hd];exact aC _ _,aew,by rw[zG];simp;omega,ay _,ag⟩);have Q':=O zG;have B9:=O hd;clear c0 c1 c2 c3 c4 c5 c6 c7 d0 d1 Fk AY zG;obtain⟨⟨c0,c1,c2,c3,c4,c5,c6,c7⟩,d0,d1⟩:=HC.o w6 S0.o.rI;rw[Q'.o]at c0 c1 c2 c3 c4 c5 c6 c7 d0 d1;go_wp2_with fail
  rw[<-B9.o, <-Q'.o, <-rh.o];refine(lL b d 0 w2 _ _ PB _ user true rfl uO.o CB.o ag ag ab S0.o).mono ?_;rintro e W1⟨rfl,s1⟩;obtain⟨L1,l1,s1⟩:=s1.named;have S1:=O s1;have E1:=O l1;clear c0 c1 c2 c3 c4 c5 c6 c7 d0 d1 s1 l1;obtain⟨⟨c0,c1,c2,c3,c4,c5,c6,c7⟩,d0,d1⟩:=HC.o W1 S1.o.rI;go_wp2_with fail
  rw[<-B9.o, <-rh.o];refine(lL b d 1 w2 _ _ vF _ aK true rfl uO.o CB.o ag ag ab S1.o).mono ?_;rintro e W2⟨rfl,s2⟩;obtain⟨L2,l2,s2⟩:=s2.named;have S2:=O s2;have E2:=O l2;clear c0 c1 c2 c3 c4 c5 c6 c7 d0 d1 s2 l2;obtain⟨⟨c0,c1,c2,c3,c4,c5,c6,c7⟩,d0,d1⟩:=HC.o W2 S2.o.rI;go_wp2_with fail
  rw[<-B9.o, <-rh.o];refine(lL b d 2 w2 _ _ vG _ bq true rfl uO.o CB.o ag ag ab S2.o).mono ?_;rintro e W3⟨rfl,s3⟩;obtain⟨L3,l3,s3⟩:=s3.named;have S3:=O s3;have E3:=O l3;clear c0 c1 c2 c3 c4 c5 c6 c7 d0 d1 s3 l3;obtain⟨⟨c0,c1,c2,c3,c4,c5,c6,c7⟩,d0,d1⟩:=HC.o W3 S3.o.rI;go_wp2_with fail
  rw[<-B9.o, <-rh.o];refine(lL b d 3 w2 _ _ YW _ target true rfl uO.o CB.o ag ag ab S3.o).mono ?_;rintro e W4⟨rfl,s4⟩;obtain⟨L4,l4,s4⟩:=s4.named;have S4:=O s4;have E4:=O l4;clear c0 c1 c2 c3 c4 c5 c6 c7 d0 d1 s4 l4;obtain⟨⟨c0,c1,c2,c3,c4,c5,c6,c7⟩,d0,d1⟩:=HC.o W4 S4.o.rI;go_wp2_with fail
  refine(aev.o W4 (rK.o _ S4.o.rI)).mono ?_;rintro e wr⟨rfl,cL⟩;have S5:=O (S4.o.KK cL uO.o);clear c0 c1 c2 c3 c4 c5 c6 c7 d0 d1 cL;obtain⟨⟨c0,c1,c2,c3,c4,c5,c6,c7⟩,d0,d1⟩:=HC.o wr S5.o.rI;go_wp2_with fail
  rw[<-B9.o, <-rh.o];refine(lL b d 4 w2 _ _ PC _ (og x) true rfl uO.o CB.o ag ag ab S5.o).mono ?_;rintro e W6⟨rfl,s6⟩;obtain⟨L6,l6,s6⟩:=s6.named;have S6:=O s6;have E6:=O l6;clear c0 c1 c2 c3 c4 c5 c6 c7 d0 d1 s6 l6;obtain⟨⟨c0,c1,c2,c3,c4,c5,c6,c7⟩,d0,d1⟩:=HC.o W6 S6.o.rI;go_wp2_with fail
  refine(NAME.o W6).mono ?_;rintro e wn⟨rfl,Gg⟩;have S7:=O (S6.o.KK Gg uO.o);clear c0 c1 c2 c3 c4 c5 c6 c7 d0 d1 Gg;obtain⟨⟨c0,c1,c2,c3,c4,c5,c6,c7⟩,d0,d1⟩:=HC.o wn S7.o.rI;go_wp2_with fail
  rw[<-B9.o, <-rh.o];refine(lL b d 5 w2 _ _ yX _ _ false rfl uO.o CB.o ag ag (by have:=HNL.o;omega) S7.o).mono ?_;rintro e W8⟨rfl,s8⟩;obtain⟨L8,l8,s8⟩:=s8.named;have S8:=O s8;have E8:=O l8;clear c0 c1 c2 c3 c4 c5 c6 c7 d0 d1 s8 l8;obtain⟨⟨c0,c1,c2,c3,c4,c5,c6,c7⟩,d0,d1⟩:=HC.o W8 S8.o.rI;go_wp2_with fail
  rw[<-B9.o, <-rh.o];refine(lL b d 6 w2 _ _ J8 _ _ false rfl uO.o CB.o ag ag ag S8.o).mono ?_;rintro e W9⟨rfl,s9⟩;obtain⟨L9,l9,s9⟩:=s9.named;have S9:=O s9;have E9:=O l9;clear c0 c1 c2 c3 c4 c5 c6 c7 d0 d1 s9 l9;obtain⟨⟨c0,c1,c2,c3,c4,c5,c6,c7⟩,d0,d1⟩:=HC.o W9 S9.o.rI;go_wp2_with fail
  refine(ace.o W9 (rK.o _ S9.o.rI)).mono ?_;rintro e wc⟨rfl,hfc⟩;have Ye:=O (S9.o.KK hfc uO.o);clear c0 c1 c2 c3 c4 c5 c6 c7 d0 d1 hfc;obtain⟨⟨c0,c1,c2,c3,c4,c5,c6,c7⟩,d0,d1⟩:=HC.o wc Ye.o.rI;go_wp2_with fail
  rw[<-B9.o, <-rh.o];refine(lL b d 7 w2 _ _ nNc _ (bA (jD k)) false rfl uO.o CB.o ag ag (by have:=Ff.o;omega) Ye.o).mono ?_;rintro e W11⟨rfl,s11⟩;obtain⟨L11,l11,s11⟩:=s11.named;have S11:=O s11;have E11:=O l11;clear c0 c1 c2 c3 c4 c5 c6 c7 d0 d1 s11 l11;obtain⟨⟨c0,c1,c2,c3,c4,c5,c6,c7⟩,d0,d1⟩:=HC.o W11 S11.o.rI;go_wp2_with fail
  rw[<-B9.o, <-rh.o];refine(lL b d 8 w2 _ _ Cz _ bL true rfl uO.o CB.o ag ag ab S11.o).mono ?_;rintro e W12⟨rfl,s12⟩;obtain⟨L12,l12,s12⟩:=s12.named;have S12:=O s12;have E12:=O l12;clear c0 c1 c2 c3 c4 c5 c6 c7 d0 d1 s12 l12;obtain⟨⟨c0,c1,c2,c3,c4,c5,c6,c7⟩,d0,d1⟩:=HC.o W12 S12.o.rI;by_cases ho:cy.data.toList.isEmpty=true
  ·have o1:cy.toList=[]:=by rw[aO];exact gF.1 ho
   have Qh:Dq cy.data.toList=[]:=by unfold Dq;rw[az ho]
   have o2:(cy.toList== [])=true:=by rw[o1];rfl
   have o3:cy.toList.isEmpty=true:=by rw[o1];rfl
   skip
   have Ee:=pN S12.o.hd;rw[B9.o]at Ee;have BV:=O (show dg.items=L12 by rw[AA.o,E12.o,E11.o,E9.o,E8.o,E6.o,E4.o,E3.o,E2.o,E1.o,HX.o];exact(show vS _ _ _ _ _ _++(Dp _ _++(UC _ _ _++Dq cy.data.toList))=_ by rw[Qh];rfl));cases oY:ya L12 with
   |true =>
    have CH:=O (show dg.fair=false by have hb:=jN dg;rw[BV.o,oY]at hb;simpa using hb.symm);rw[oY]at Ee;go_wp2;go_ret2;exact⟨rK.o _ S12.o.rI,Or.inl ⟨AA.o▸CH.o,_,_,rfl⟩⟩
   |false =>
    rw[oY]at Ee;have r_:=O (jO (d:=dg) (by rw[BV.o];exact oY));have V2:=O (jP r_.o);go_wp2_with fail
    rw[<-rh.o];refine(Builder_String_any_k b b (vR L12) W12 (by have h:=S12.o.hb;exact h) (S12.o.sz)).mono ?_;rintro e wz⟨rfl,_,MP,_⟩;go_wp2;go_ret2;refine⟨rK.o _ ((S12.o.rI).trans (uO.o▸MP)),Or.inr ⟨ag,by rw[HX.o],by rw[HX.o];exact mf,by rw[HX.o];exact rZ,AA.o▸r_.o,?_⟩⟩;rw[<-AA.o, <-V2.o,BV.o];rfl
  ·have ER:cy.data.toList.isEmpty=false:=by simpa using ho
   have Qh:Dq cy.data.toList=[(mi,cy.data.toList,true)]:=by unfold Dq;rw[aq ho]
   have o1:¬cy.toList=[]:=by rw[aO];intro h;rw[h]at ER;cases ER
   have o2:(cy.toList== [])=false:=aL.2 o1;have o3:cy.toList.isEmpty=false:=by rw[aO];exact ER
   go_wp2_with fail
   rw[<-B9.o, <-rh.o];refine(lL b d 9 w2 _ _ mi _ cy true rfl uO.o CB.o ag ag ab S12.o).mono ?_;rintro e W13⟨rfl,s13⟩;obtain⟨L13,l13,s13⟩:=s13.named;have S13:=O s13;have E13:=O l13;clear c0 c1 c2 c3 c4 c5 c6 c7 d0 d1 s13 l13;obtain⟨⟨c0,c1,c2,c3,c4,c5,c6,c7⟩,d0,d1⟩:=HC.o W13 S13.o.rI;have Ee:=pN S13.o.hd;rw[B9.o]at Ee
   have BV:=O (show dg.items=L13 by rw[AA.o,E13.o,E12.o,E11.o,E9.o,E8.o,E6.o,E4.o,E3.o,E2.o,E1.o,HX.o];exact(show vS _ _ _ _ _ _++(Dp _ _++(UC _ _ _++Dq cy.data.toList))=_ by rw[Qh];rfl));cases oY:ya L13 with
   |true =>
    have CH:=O (show dg.fair=false by have hb:=jN dg;rw[BV.o,oY]at hb;simpa using hb.symm);rw[oY]at Ee;go_wp2;go_ret2;exact⟨rK.o _ S13.o.rI,Or.inl ⟨AA.o▸CH.o,_,_,rfl⟩⟩
   |false =>
    rw[oY]at Ee;have r_:=O (jO (d:=dg) (by rw[BV.o];exact oY));have V2:=O (jP r_.o);go_wp2_with fail
    rw[<-rh.o];refine(Builder_String_any_k b b (vR L13) W13 (by have h:=S13.o.hb;exact h) (S13.o.sz)).mono ?_;rintro e wz⟨rfl,_,MP,_⟩;go_wp2;go_ret2;refine⟨rK.o _ ((S13.o.rI).trans (uO.o▸MP)),Or.inr ⟨ag,by rw[HX.o],by rw[HX.o];exact mf,by rw[HX.o];exact rZ,AA.o▸r_.o,?_⟩⟩;rw[<-AA.o, <-V2.o,BV.o];rfl
def CI(fQ:Int)(cy:aj)(x:nU)(n:Int):Prop:=((fQ=2\/fQ=3)/\(x.eH.data.toList=[]\/x.eH.data.toList=mh\/x.eH.data.toList=qi))/\(1<=n/\n<=4294967295)/\(zv fQ cy x).fair=true
def oZ(fQ:Int)(cy:aj)(x:nU)(n:Int)(w:World)(e:Ending)(w':World):Prop :=
 Fr aS w w'/\((¬CI fQ cy x n/\∃t v,e=.returned (.tuple #[.string ⟨#[]⟩,.iface t v]))\/(CI fQ cy x n/\e=.returned (.tuple #[.string (bA (zv fQ cy x).text),.nilIface])))
theorem RW(fQ:Int)(aK bq cy eH user pass method target body bL:aj)(cA cN:Bool)(dom:Value)(n:Int)(w:World)(eb:dom.oneCell'=true)
  (x1:aK.size<=5000)(x2:bq.size<=5000)(x3:cy.size<=5000)(x4:user.size<=5000)(x5:pass.size<=5000)(x6:method.size<=5000)(x7:target.size<=5000)(x8:body.size<=5000)(x9:bL.size<=5000)
  (Nv:oP w 9 .u8 Tr)(hh:tz fQ w) :
  aB 50 #[.agg #[.int .i64 fQ,.string aK,.string bq,.string cy,.bool cA,.string eH,.bool cN,dom],.agg #[.string user,.string pass],.string method,.string target,.string body,.string bL,.int .i64 n] w (oZ fQ cy ⟨decide (fQ=3),cA,aK,bq,eH,user,pass,method,target,body,bL,n.toNat⟩ n w):=by
 have yv:∀l:Bs,eH.toList=l->eH=⟨l.toArray⟩:=fun l h=>Go.WideShapes.bytes_inj (by rw[<-aO,h]);by_cases hsq:(fQ=2\/fQ=3)/\(eH.toList=[]\/eH.toList=[97,117,116,104]\/eH.toList=[97,117,116,104,45,105,110,116])
 ·obtain⟨hs,hq⟩:=hsq;by_cases hn:1<=n/\n<=4294967295
  ·obtain⟨Jz,AU⟩:=hn;obtain⟨k,rfl⟩:∃k:Nat,n=(k:Int):=⟨n.toNat,ab⟩;have key:aB 50 #[.agg #[.int .i64 fQ,.string aK,.string bq,.string cy,.bool cA,.string eH,.bool cN,dom],.agg #[.string user,.string pass],.string method,.string target,.string body,.string bL,.int .i64 (k:Int)] w (Ij fQ cy ⟨decide (fQ=3),cA,aK,bq,eH,user,pass,method,target,body,bL,k⟩ k w):=by
    rcases hq with hq|hq|hq
    ·exact V0 fQ aK bq cy eH user pass method target body bL cA cN dom k w eb (yv _ hq) hs ab ab x1 x2 x3 x4 x5 x6 x7 x8 x9 Nv hh
    ·exact LF fQ aK bq cy eH user pass method target body bL cA cN dom k w eb (Or.inl (yv _ hq)) hs ab ab x1 x2 x3 x4 x5 x6 x7 x8 x9 Nv hh
    ·exact LF fQ aK bq cy eH user pass method target body bL cA cN dom k w eb (Or.inr (yv _ hq)) hs ab ab x1 x2 x3 x4 x5 x6 x7 x8 x9 Nv hh
   refine key.mono ?_;rintro e w'⟨hf,hm⟩;refine⟨hf,?_⟩;rcases hm with ⟨hm,hr⟩|⟨h1,h2,h3,h4,h5,h6⟩
   ·exact Or.inl ⟨fun hg=>(by have hg:=hg.2.2;rw[Int.toNat_natCast,hm]at hg;cases hg),hr⟩
   ·refine Or.inr ⟨⟨⟨h1,?_⟩,⟨ab,ab⟩,h5⟩,h6⟩;show eH.data.toList=[]\/eH.data.toList=mh\/eH.data.toList=qi;rw[<-aO];exact hq
  ·have Dj:n<1\/4294967295<n:=ab;have hng:∀x,¬CI fQ cy x n:=fun x h=>hn h.2.1;clear hn;have HG:∀t v (w':World),Fr aS w w'->oZ fQ cy ⟨decide (fQ=3),cA,aK,bq,eH,user,pass,method,target,body,bL,n.toNat⟩ n w (.returned (.tuple #[.string ⟨#[]⟩,.iface t v])) w':=fun t v w' hf=>⟨hf,Or.inl ⟨hng _,t,v,rfl⟩⟩;have HGG:=O HG;clear HG hng
   generalize oZ fQ cy ⟨decide (fQ=3),cA,aK,bq,eH,user,pass,method,target,body,bL,n.toNat⟩ n w=Q at *
   have dB:Fr aS w ((w.alloc (.cells #[.int .i64 fQ,.string aK,.string bq,.string cy,.bool cA,.string eH,.bool cN,dom] 112)).alloc (.cells #[.string user,.string pass] 39)):=((ae aS w).alloc _).alloc _;have f_:=O dB;clear dB;rcases Dj with hn|hn
   ·rcases hs with rfl|rfl<;>rcases hq with hq|hq|hq<;>obtain rfl:=yv _ hq<;>clear hq <;>
     (go_enter func50,ntmps50
      go_wp2
      (first|go_ret2|skip)
      exact HGG.o _ _ _ f_.o)
   ·have PF:¬n<1:=ab;rcases hs with rfl|rfl<;>rcases hq with hq|hq|hq<;>obtain rfl:=yv _ hq<;>clear hq <;>
     (go_enter func50,ntmps50
      go_wp2
      (first|go_ret2|skip)
      exact HGG.o _ _ _ f_.o)
 ·have hng:∀x:nU,x.eH=eH->¬CI fQ cy x n:=fun x hx h=>hsq ⟨h.1.1,by rw[<-hx,aO];exact h.1.2⟩;have HG:∀t v (w':World),Fr aS w w'->oZ fQ cy ⟨decide (fQ=3),cA,aK,bq,eH,user,pass,method,target,body,bL,n.toNat⟩ n w (.returned (.tuple #[.string ⟨#[]⟩,.iface t v])) w':=fun t v w' hf=>⟨hf,Or.inl ⟨hng _ rfl,t,v,rfl⟩⟩;have HGG:=O HG;clear HG hng
  generalize oZ fQ cy ⟨decide (fQ=3),cA,aK,bq,eH,user,pass,method,target,body,bL,n.toNat⟩ n w=Q at *
  have dB:Fr aS w ((w.alloc (.cells #[.int .i64 fQ,.string aK,.string bq,.string cy,.bool cA,.string eH,.bool cN,dom] 112)).alloc (.cells #[.string user,.string pass] 39)):=((ae aS w).alloc _).alloc _;have f_:=O dB;clear dB;by_cases hs:fQ=2\/fQ=3
  ·have hq:¬(eH.toList=[]\/eH.toList=[97,117,116,104]\/eH.toList=[97,117,116,104,45,105,110,116]):=fun h=>hsq ⟨hs,h⟩;have q1:¬eH.toList=[]:=fun h=>hq (Or.inl h);have q2:¬eH.toList=[97,117,116,104]:=fun h=>hq (Or.inr (Or.inl h));have q3:¬eH.toList=[97,117,116,104,45,105,110,116]:=fun h=>hq (Or.inr (Or.inr h));have q4:(eH.toList== [])=false:=aL.2 q1
   have q5:(eH.toList== [97,117,116,104])=false:=aL.2 q2;have q6:(eH.toList== [97,117,116,104,45,105,110,116])=false:=aL.2 q3;have q7:eH.toList.isEmpty=false:=by cases hz:eH.toList with|nil=>exact absurd hz q1|cons _ _=>rfl
   clear hsq hq yv;rcases hs with rfl|rfl
   ·go_enter func50,ntmps50;go_wp2
    (first|go_ret2|skip)
    exact HGG.o _ _ _ f_.o
   ·go_enter func50,ntmps50;go_wp2
    (first|go_ret2|skip)
    exact HGG.o _ _ _ f_.o
  ·have s2:¬fQ=2:=fun h=>hs (Or.inl h);have s3:¬fQ=3:=fun h=>hs (Or.inr h);clear hs hsq yv;go_enter func50,ntmps50;go_wp2
   (first|go_ret2|skip)
   exact HGG.o _ _ _ f_.o
