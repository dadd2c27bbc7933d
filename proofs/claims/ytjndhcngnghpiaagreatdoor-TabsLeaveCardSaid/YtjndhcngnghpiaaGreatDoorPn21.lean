/- Lemmas for the law's walk. -/
import Derived.Test.YtjndhcngnghpiaaGreatDoorPn12
set_option maxRecDepth 100000
set_option maxHeartbeats 16000000
set_option linter.unusedSimpArgs false
namespace Go.Proofs.YtjndhcngnghpiaaGreatDoor
open Go.Proofs.Tryz
open Go.RowKit
theorem VD(fO:Int)(aK bq cy eF user pass method target body bK:aj)(cA cN:Bool)(dom:Value)(k:Nat)(w:World)(dX:dom.oneCell'=true)
  (hq:eF=⟨#[]⟩)(hs:fO=2\/fO=3)(lW:1<=k)(rS:k<=4294967295)
  (x1:aK.size<=5000)(x2:bq.size<=5000)(x3:cy.size<=5000)(x4:user.size<=5000)(x5:pass.size<=5000)(x6:method.size<=5000)(x7:target.size<=5000)(x8:body.size<=5000)(x9:bK.size<=5000)
  (M8:oI w 9 .u8 SY)(hh:sW fO w) :
  aB 72 #[.agg #[.int .i64 fO,.string aK,.string bq,.string cy,.bool cA,.string eF,.bool cN,dom],.agg #[.string user,.string pass],.string method,.string target,.string body,.string bK,.int .i64 (k:Int)] w (Hp fO cy ⟨decide (fO=3),cA,aK,bq,eF,user,pass,method,target,body,bK,k⟩ k w):=by
 obtain⟨x,hx⟩:∃x:nL,x=⟨decide (fO=3),cA,aK,bq,eF,user,pass,method,target,body,bK,k⟩:=⟨_,rfl⟩;have xq:eF.size<=5000:=by rw[hq];decide
 have oZ:x.Small:=by rw[hx];exact⟨by show aK.size<=_;omega,by show bq.size<=_;omega,by show eF.size<=_;omega,by show user.size<=_;omega,by show pass.size<=_;omega,by show method.size<=_;omega,by show target.size<=_;omega,by show body.size<=_;omega,by show bK.size<=_;omega,by show k<_;omega⟩
 rw[<-hx];have adZ:=O (show∀U,Fr aS w U->aB 109 #[.agg #[.int .i64 fO,.string aK,.string bq,.string cy,.bool cA,.string eF,.bool cN,dom],.agg #[.string user,.string pass],.string method,.string target,.string body,.string bK,.int .i64 (k:Int)] U fun e w'=>e=.returned (.string (nZ x))/\Fr aS U w' from fun U hU=>by
  have:=zj ⟨fO,aK,bq,cy,cA,eF,cN,dom⟩ x U oZ (by rw[hx]) (by rw[hx]) (by rw[hx]) (by rw[hx]) (by rw[hx]) dX (M8.fr hU) (hh.fr hU);rw[hx]at this ⊢;exact this)
 have abK:=O (show∀U,Fr aS w U->aB 111 #[.int .i64 (k:Int)] U fun e w'=>e=.returned (.string (bA (jt k)))/\Fr aS U w' from fun U hU=>q_ k U ab (M8.fr hU));have NAME:=O (fun U=>Kg fO aK bq cy eF cA cN dom U);have hrs:=Dk x;have HX:=O hx;have HQ:=O hq;have HS:=O hs;clear M8 hh oZ
 obtain⟨w2,eA⟩:∃w2,w2=(w.alloc (.cells #[.int .i64 fO,.string aK,.string bq,.string cy,.bool cA,.string eF,.bool cN,dom] 127)).alloc (.cells #[.string user,.string pass] 31):=⟨_,rfl⟩;have dz:Fr aS w w2:=by rw[eA];exact((ae aS w).alloc _).alloc _
 have wT:w2.heap.size=w.heap.size+2:=by rw[eA];simp
 have k1:w2.heap[w.heap.size]?=some (.cells #[.int .i64 fO,.string aK,.string bq,.string cy,.bool cA,.string eF,.bool cN,dom] 127 (0,0)):=by rw[eA];exact((ae aS _).alloc _).keep (aC _ _) id
 have k2:w2.heap[w.heap.size+1]?=some (.cells #[.string user,.string pass] 31 (0,0)):=by
  have h:=aC (w.alloc (.cells #[.int .i64 fO,.string aK,.string bq,.string cy,.bool cA,.string eF,.bool cN,dom] 127)) (.cells #[.string user,.string pass] 31);rw[bN]at h;rw[eA];exact h
 have HC:=O (show∀U,Below w2.heap.size w2 U->(U.cell? ⟨w.heap.size,0,none⟩=some (.int .i64 fO)/\U.cell? ⟨w.heap.size,1,none⟩=some (.string aK)/\U.cell? ⟨w.heap.size,2,none⟩=some (.string bq)/\U.cell? ⟨w.heap.size,3,none⟩=some (.string cy)/\U.cell? ⟨w.heap.size,4,none⟩=some (.bool cA)/\U.cell? ⟨w.heap.size,5,none⟩=some (.string eF)/\U.cell? ⟨w.heap.size,6,none⟩=some (.bool cN)/\U.cell? ⟨w.heap.size,7,none⟩=some dom)/\U.cell? ⟨w.heap.size+1,0,none⟩=some (.string user)/\U.cell? ⟨w.heap.size+1,1,none⟩=some (.string pass)from fun U hU=>by
  have j1:=(hU.block w.heap.size ab).trans k1;have j2:=(hU.block (w.heap.size+1) ab).trans k2;exact⟨by simp[World.cell?,j1],by simp[World.cell?,j2]⟩)
 have rC:=O (show∀U,Below w2.heap.size w2 U->Fr aS w U from fun U hU=>dz.trans (fj hU));obtain⟨b,hb⟩:∃b,b=w2.heap.size:=⟨_,rfl⟩;obtain⟨w4,qt⟩:∃w4,w4=w2.alloc (.cells #[.pointer none,.slice none 0 0] 189):=⟨_,rfl⟩;have tK:vA b b [] w4:=by rw[qt,hb];exact Lib.IsBuilderF.of (FA.new w2)
 have hB4:Below w2.heap.size w2 w4:=by rw[qt];exact(Below.refl _ w2).alloc (ay _) _
 have hs4:w4.heap.size=b+1:=by rw[qt,hb];simp
 have nD:=O eA;have NS:=O qt;have hkk:(k:Int)<=4294967295:=ab;have QD:¬(k:Int)<1:=ab;have Xz:¬(4294967295:Int)<(k:Int):=ab;obtain⟨⟨c0,c1,c2,c3,c4,c5,c6,c7⟩,d0,d1⟩:=HC.o w2 (Below.refl _ _);rw[eA]at c0 c1 c2 c3 c4 c5 c6 c7 d0 d1;clear qt hx hq dz k1 k2;have uC:=O hb;have qW:=O (show b=w.heap.size+1+1 from ab);have HB:=O hb.symm;have Y':=O tK;have VE:=O hB4
 have HNL:=O (show(bA (pd fO cA)).size<=12 by
  show(pd fO cA).length<=12;unfold pd;split<;>cases cA<;>decide)
 have EO:=O (show(bA (jt k)).size<=8 by show(jt k).length<=8;unfold jt;rw[nK];exact ay _);clear tK hB4;obtain⟨dg,hdg⟩:∃dg,dg=zk fO cy x:=⟨_,rfl⟩;have Ak:=O hdg;clear hdg;obtain rfl:=HQ.o;rcases HS.o with hs0|hs0<;>subst hs0
 all_goals
  go_enter func72,ntmps72;go_wp2_with fail
  rw[<-nD.o, <-NS.o];rw[<-qW.o];refine(ec b b [] ⟨#[68,105,103,101,115,116,32]⟩ w4 Y'.o ag ab).mono ?_;rintro e w5⟨rfl,EU,AI,_⟩;have hs5:=AI.size;obtain⟨d,hd⟩:∃d,d=w5.heap.size:=⟨_,rfl⟩;obtain⟨w6,zx⟩:∃w6,w6=w5.alloc (.cells #[.bool false] 4):=⟨_,rfl⟩;have Ck:=O (show b<d from ab);have ad0:Below w2.heap.size w2 w6:=by rw[zx];exact(VE.o.trans (uC.o▸AI)).alloc (by have:=VE.o.size;omega) _
  have S0:=O (show St b d 0 w2 [] w6 from⟨by rw[zx];exact EU.fG ((ae aS w5).alloc _),by rw[zx,hd];exact aC _ _,ad0,by rw[zx];simp;omega,ay _,ag⟩);have QQ:=O zx;have BL:=O hd;clear c0 c1 c2 c3 c4 c5 c6 c7 d0 d1 EU AI zx;obtain⟨⟨c0,c1,c2,c3,c4,c5,c6,c7⟩,d0,d1⟩:=HC.o w6 S0.o.rA;rw[QQ.o]at c0 c1 c2 c3 c4 c5 c6 c7 d0 d1;go_wp2_with fail
  rw[<-BL.o, <-QQ.o, <-qW.o];refine(lF b d 0 w2 _ _ Pg _ user true rfl uC.o Ck.o ag ag ab S0.o).mono ?_;rintro e W1⟨rfl,s1⟩;obtain⟨L1,l1,s1⟩:=s1.named;have S1:=O s1;have E1:=O l1;clear c0 c1 c2 c3 c4 c5 c6 c7 d0 d1 s1 l1;obtain⟨⟨c0,c1,c2,c3,c4,c5,c6,c7⟩,d0,d1⟩:=HC.o W1 S1.o.rA;go_wp2_with fail
  rw[<-BL.o, <-qW.o];refine(lF b d 1 w2 _ _ vt _ aK true rfl uC.o Ck.o ag ag ab S1.o).mono ?_;rintro e W2⟨rfl,s2⟩;obtain⟨L2,l2,s2⟩:=s2.named;have S2:=O s2;have E2:=O l2;clear c0 c1 c2 c3 c4 c5 c6 c7 d0 d1 s2 l2;obtain⟨⟨c0,c1,c2,c3,c4,c5,c6,c7⟩,d0,d1⟩:=HC.o W2 S2.o.rA;go_wp2_with fail
  rw[<-BL.o, <-qW.o];refine(lF b d 2 w2 _ _ vu _ bq true rfl uC.o Ck.o ag ag ab S2.o).mono ?_;rintro e W3⟨rfl,s3⟩;obtain⟨L3,l3,s3⟩:=s3.named;have S3:=O s3;have E3:=O l3;clear c0 c1 c2 c3 c4 c5 c6 c7 d0 d1 s3 l3;obtain⟨⟨c0,c1,c2,c3,c4,c5,c6,c7⟩,d0,d1⟩:=HC.o W3 S3.o.rA;go_wp2_with fail
  rw[<-BL.o, <-qW.o];refine(lF b d 3 w2 _ _ Yr _ target true rfl uC.o Ck.o ag ag ab S3.o).mono ?_;rintro e W4⟨rfl,s4⟩;obtain⟨L4,l4,s4⟩:=s4.named;have S4:=O s4;have E4:=O l4;clear c0 c1 c2 c3 c4 c5 c6 c7 d0 d1 s4 l4;obtain⟨⟨c0,c1,c2,c3,c4,c5,c6,c7⟩,d0,d1⟩:=HC.o W4 S4.o.rA;go_wp2_with fail
  refine(adZ.o W4 (rC.o _ S4.o.rA)).mono ?_;rintro e wr⟨rfl,cL⟩;have S5:=O (S4.o.Kr cL uC.o);clear c0 c1 c2 c3 c4 c5 c6 c7 d0 d1 cL;obtain⟨⟨c0,c1,c2,c3,c4,c5,c6,c7⟩,d0,d1⟩:=HC.o wr S5.o.rA;go_wp2_with fail
  rw[<-BL.o, <-qW.o];refine(lF b d 4 w2 _ _ Ph _ (nZ x) true rfl uC.o Ck.o ag ag ab S5.o).mono ?_;rintro e W6⟨rfl,s6⟩;obtain⟨L6,l6,s6⟩:=s6.named;have S6:=O s6;have E6:=O l6;clear c0 c1 c2 c3 c4 c5 c6 c7 d0 d1 s6 l6;obtain⟨⟨c0,c1,c2,c3,c4,c5,c6,c7⟩,d0,d1⟩:=HC.o W6 S6.o.rA;go_wp2_with fail
  refine(NAME.o W6).mono ?_;rintro e wn⟨rfl,FQ⟩;have S7:=O (S6.o.Kr FQ uC.o);clear c0 c1 c2 c3 c4 c5 c6 c7 d0 d1 FQ;obtain⟨⟨c0,c1,c2,c3,c4,c5,c6,c7⟩,d0,d1⟩:=HC.o wn S7.o.rA;go_wp2_with fail
  rw[<-BL.o, <-qW.o];refine(lF b d 5 w2 _ _ yO _ _ false rfl uC.o Ck.o ag ag (by have:=HNL.o;omega) S7.o).mono ?_;rintro e W8⟨rfl,s8⟩;obtain⟨L8,l8,s8⟩:=s8.named;have S8:=O s8;have E8:=O l8;clear c0 c1 c2 c3 c4 c5 c6 c7 d0 d1 s8 l8;obtain⟨⟨c0,c1,c2,c3,c4,c5,c6,c7⟩,d0,d1⟩:=HC.o W8 S8.o.rA;cases cA with
  |false =>
   by_cases ho:cy.data.toList.isEmpty=true
   ·have o1:cy.toList=[]:=by rw[aO];exact gA.1 ho
    have P1:C' cy.data.toList=[]:=by unfold C';rw[aA ho]
    have o2:(cy.toList== [])=true:=by rw[o1];rfl
    have o3:cy.toList.isEmpty=true:=by rw[o1];rfl
    skip
    have D2:=pG S8.o.hd;rw[BL.o]at D2;have BC:=O (show dg.items=L8 by rw[Ak.o,E8.o,E6.o,E4.o,E3.o,E2.o,E1.o,HX.o];exact(show vI _ _ _ _ _ _++(C_ _ _++(Ug _ _ _++C' cy.data.toList))=_ by rw[P1];rfl));cases oP:xT L8 with
    |true =>
     have Cp:=O (show dg.fair=false by have hb:=jF dg;rw[BC.o,oP]at hb;simpa using hb.symm);rw[oP]at D2;go_wp2;go_ret2;exact⟨rC.o _ S8.o.rA,Or.inl ⟨Ak.o▸Cp.o,_,_,rfl⟩⟩
    |false =>
     rw[oP]at D2;have rT:=O (jG (d:=dg) (by rw[BC.o];exact oP));have VF:=O (jH rT.o);go_wp2_with fail
     rw[<-qW.o];refine(Builder_String_any_k b b (vH L8) W8 (by have h:=S8.o.hb;exact h) (S8.o.sz)).mono ?_;rintro e wz⟨rfl,_,Ms,_⟩;go_wp2;go_ret2;refine⟨rC.o _ ((S8.o.rA).trans (uC.o▸Ms)),Or.inr ⟨ag,by rw[HX.o],by rw[HX.o];exact lW,by rw[HX.o];exact rS,Ak.o▸rT.o,?_⟩⟩;rw[<-Ak.o, <-VF.o,BC.o];rfl
   ·have Ey:cy.data.toList.isEmpty=false:=by simpa using ho
    have P1:C' cy.data.toList=[(lZ,cy.data.toList,true)]:=by unfold C';rw[ar ho]
    have o1:¬cy.toList=[]:=by rw[aO];intro h;rw[h]at Ey;cases Ey
    have o2:(cy.toList== [])=false:=aL.2 o1;have o3:cy.toList.isEmpty=false:=by rw[aO];exact Ey
    go_wp2_with fail
    rw[<-BL.o, <-qW.o];refine(lF b d 6 w2 _ _ lZ _ cy true rfl uC.o Ck.o ag ag ab S8.o).mono ?_;rintro e W9⟨rfl,s9⟩;obtain⟨L9,l9,s9⟩:=s9.named;have S9:=O s9;have E9:=O l9;clear c0 c1 c2 c3 c4 c5 c6 c7 d0 d1 s9 l9;obtain⟨⟨c0,c1,c2,c3,c4,c5,c6,c7⟩,d0,d1⟩:=HC.o W9 S9.o.rA;have D2:=pG S9.o.hd;rw[BL.o]at D2
    have BC:=O (show dg.items=L9 by rw[Ak.o,E9.o,E8.o,E6.o,E4.o,E3.o,E2.o,E1.o,HX.o];exact(show vI _ _ _ _ _ _++(C_ _ _++(Ug _ _ _++C' cy.data.toList))=_ by rw[P1];rfl));cases oP:xT L9 with
    |true =>
     have Cp:=O (show dg.fair=false by have hb:=jF dg;rw[BC.o,oP]at hb;simpa using hb.symm);rw[oP]at D2;go_wp2;go_ret2;exact⟨rC.o _ S9.o.rA,Or.inl ⟨Ak.o▸Cp.o,_,_,rfl⟩⟩
    |false =>
     rw[oP]at D2;have rT:=O (jG (d:=dg) (by rw[BC.o];exact oP));have VF:=O (jH rT.o);go_wp2_with fail
     rw[<-qW.o];refine(Builder_String_any_k b b (vH L9) W9 (by have h:=S9.o.hb;exact h) (S9.o.sz)).mono ?_;rintro e wz⟨rfl,_,Ms,_⟩;go_wp2;go_ret2;refine⟨rC.o _ ((S9.o.rA).trans (uC.o▸Ms)),Or.inr ⟨ag,by rw[HX.o],by rw[HX.o];exact lW,by rw[HX.o];exact rS,Ak.o▸rT.o,?_⟩⟩;rw[<-Ak.o, <-VF.o,BC.o];rfl
  |true =>
   go_wp2_with fail
   rw[<-BL.o, <-qW.o];refine(lF b d 6 w2 _ _ Ci _ bK true rfl uC.o Ck.o ag ag ab S8.o).mono ?_;rintro e W10⟨rfl,s10⟩;obtain⟨L10,l10,s10⟩:=s10.named;have XJ:=O s10;have E10:=O l10;clear c0 c1 c2 c3 c4 c5 c6 c7 d0 d1 s10 l10;obtain⟨⟨c0,c1,c2,c3,c4,c5,c6,c7⟩,d0,d1⟩:=HC.o W10 XJ.o.rA;by_cases ho:cy.data.toList.isEmpty=true
   ·have o1:cy.toList=[]:=by rw[aO];exact gA.1 ho
    have P1:C' cy.data.toList=[]:=by unfold C';rw[aA ho]
    have o2:(cy.toList== [])=true:=by rw[o1];rfl
    have o3:cy.toList.isEmpty=true:=by rw[o1];rfl
    skip
    have D2:=pG XJ.o.hd;rw[BL.o]at D2;have BC:=O (show dg.items=L10 by rw[Ak.o,E10.o,E8.o,E6.o,E4.o,E3.o,E2.o,E1.o,HX.o];exact(show vI _ _ _ _ _ _++(C_ _ _++(Ug _ _ _++C' cy.data.toList))=_ by rw[P1];rfl));cases oP:xT L10 with
    |true =>
     have Cp:=O (show dg.fair=false by have hb:=jF dg;rw[BC.o,oP]at hb;simpa using hb.symm);rw[oP]at D2;go_wp2;go_ret2;exact⟨rC.o _ XJ.o.rA,Or.inl ⟨Ak.o▸Cp.o,_,_,rfl⟩⟩
    |false =>
     rw[oP]at D2;have rT:=O (jG (d:=dg) (by rw[BC.o];exact oP));have VF:=O (jH rT.o);go_wp2_with fail
     rw[<-qW.o];refine(Builder_String_any_k b b (vH L10) W10 (by have h:=XJ.o.hb;exact h) (XJ.o.sz)).mono ?_;rintro e wz⟨rfl,_,Ms,_⟩;go_wp2;go_ret2;refine⟨rC.o _ ((XJ.o.rA).trans (uC.o▸Ms)),Or.inr ⟨ag,by rw[HX.o],by rw[HX.o];exact lW,by rw[HX.o];exact rS,Ak.o▸rT.o,?_⟩⟩;rw[<-Ak.o, <-VF.o,BC.o];rfl
   ·have Ey:cy.data.toList.isEmpty=false:=by simpa using ho
    have P1:C' cy.data.toList=[(lZ,cy.data.toList,true)]:=by unfold C';rw[ar ho]
    have o1:¬cy.toList=[]:=by rw[aO];intro h;rw[h]at Ey;cases Ey
    have o2:(cy.toList== [])=false:=aL.2 o1;have o3:cy.toList.isEmpty=false:=by rw[aO];exact Ey
    go_wp2_with fail
    rw[<-BL.o, <-qW.o];refine(lF b d 7 w2 _ _ lZ _ cy true rfl uC.o Ck.o ag ag ab XJ.o).mono ?_;rintro e W11⟨rfl,ZH⟩;obtain⟨L11,l11,ZH⟩:=ZH.named;have ZI:=O ZH;have E11:=O l11;clear c0 c1 c2 c3 c4 c5 c6 c7 d0 d1 ZH l11;obtain⟨⟨c0,c1,c2,c3,c4,c5,c6,c7⟩,d0,d1⟩:=HC.o W11 ZI.o.rA;have D2:=pG ZI.o.hd;rw[BL.o]at D2
    have BC:=O (show dg.items=L11 by rw[Ak.o,E11.o,E10.o,E8.o,E6.o,E4.o,E3.o,E2.o,E1.o,HX.o];exact(show vI _ _ _ _ _ _++(C_ _ _++(Ug _ _ _++C' cy.data.toList))=_ by rw[P1];rfl));cases oP:xT L11 with
    |true =>
     have Cp:=O (show dg.fair=false by have hb:=jF dg;rw[BC.o,oP]at hb;simpa using hb.symm);rw[oP]at D2;go_wp2;go_ret2;exact⟨rC.o _ ZI.o.rA,Or.inl ⟨Ak.o▸Cp.o,_,_,rfl⟩⟩
    |false =>
     rw[oP]at D2;have rT:=O (jG (d:=dg) (by rw[BC.o];exact oP));have VF:=O (jH rT.o);go_wp2_with fail
     rw[<-qW.o];refine(Builder_String_any_k b b (vH L11) W11 (by have h:=ZI.o.hb;exact h) (ZI.o.sz)).mono ?_;rintro e wz⟨rfl,_,Ms,_⟩;go_wp2;go_ret2;refine⟨rC.o _ ((ZI.o.rA).trans (uC.o▸Ms)),Or.inr ⟨ag,by rw[HX.o],by rw[HX.o];exact lW,by rw[HX.o];exact rS,Ak.o▸rT.o,?_⟩⟩;rw[<-Ak.o, <-VF.o,BC.o];rfl
theorem Lk(fO:Int)(aK bq cy eF user pass method target body bK:aj)(cA cN:Bool)(dom:Value)(k:Nat)(w:World)(dX:dom.oneCell'=true)
  (hq:eF=⟨#[97,117,116,104]⟩\/eF=⟨#[97,117,116,104,45,105,110,116]⟩)(hs:fO=2\/fO=3)(lW:1<=k)(rS:k<=4294967295)
  (x1:aK.size<=5000)(x2:bq.size<=5000)(x3:cy.size<=5000)(x4:user.size<=5000)(x5:pass.size<=5000)(x6:method.size<=5000)(x7:target.size<=5000)(x8:body.size<=5000)(x9:bK.size<=5000)
  (M8:oI w 9 .u8 SY)(hh:sW fO w) :
  aB 72 #[.agg #[.int .i64 fO,.string aK,.string bq,.string cy,.bool cA,.string eF,.bool cN,dom],.agg #[.string user,.string pass],.string method,.string target,.string body,.string bK,.int .i64 (k:Int)] w (Hp fO cy ⟨decide (fO=3),cA,aK,bq,eF,user,pass,method,target,body,bK,k⟩ k w):=by
 obtain⟨x,hx⟩:∃x:nL,x=⟨decide (fO=3),cA,aK,bq,eF,user,pass,method,target,body,bK,k⟩:=⟨_,rfl⟩;have xq:eF.size<=5000:=by rcases hq with h|h<;>rw[h]<;>decide
 have oZ:x.Small:=by rw[hx];exact⟨by show aK.size<=_;omega,by show bq.size<=_;omega,by show eF.size<=_;omega,by show user.size<=_;omega,by show pass.size<=_;omega,by show method.size<=_;omega,by show target.size<=_;omega,by show body.size<=_;omega,by show bK.size<=_;omega,by show k<_;omega⟩
 rw[<-hx];have adZ:=O (show∀U,Fr aS w U->aB 109 #[.agg #[.int .i64 fO,.string aK,.string bq,.string cy,.bool cA,.string eF,.bool cN,dom],.agg #[.string user,.string pass],.string method,.string target,.string body,.string bK,.int .i64 (k:Int)] U fun e w'=>e=.returned (.string (nZ x))/\Fr aS U w' from fun U hU=>by
  have:=zj ⟨fO,aK,bq,cy,cA,eF,cN,dom⟩ x U oZ (by rw[hx]) (by rw[hx]) (by rw[hx]) (by rw[hx]) (by rw[hx]) dX (M8.fr hU) (hh.fr hU);rw[hx]at this ⊢;exact this)
 have abK:=O (show∀U,Fr aS w U->aB 111 #[.int .i64 (k:Int)] U fun e w'=>e=.returned (.string (bA (jt k)))/\Fr aS U w' from fun U hU=>q_ k U ab (M8.fr hU));have NAME:=O (fun U=>Kg fO aK bq cy eF cA cN dom U);have hrs:=Dk x;have HX:=O hx;have HQ:=O hq;have HS:=O hs;clear M8 hh oZ
 obtain⟨w2,eA⟩:∃w2,w2=(w.alloc (.cells #[.int .i64 fO,.string aK,.string bq,.string cy,.bool cA,.string eF,.bool cN,dom] 127)).alloc (.cells #[.string user,.string pass] 31):=⟨_,rfl⟩;have dz:Fr aS w w2:=by rw[eA];exact((ae aS w).alloc _).alloc _
 have wT:w2.heap.size=w.heap.size+2:=by rw[eA];simp
 have k1:w2.heap[w.heap.size]?=some (.cells #[.int .i64 fO,.string aK,.string bq,.string cy,.bool cA,.string eF,.bool cN,dom] 127 (0,0)):=by rw[eA];exact((ae aS _).alloc _).keep (aC _ _) id
 have k2:w2.heap[w.heap.size+1]?=some (.cells #[.string user,.string pass] 31 (0,0)):=by
  have h:=aC (w.alloc (.cells #[.int .i64 fO,.string aK,.string bq,.string cy,.bool cA,.string eF,.bool cN,dom] 127)) (.cells #[.string user,.string pass] 31);rw[bN]at h;rw[eA];exact h
 have HC:=O (show∀U,Below w2.heap.size w2 U->(U.cell? ⟨w.heap.size,0,none⟩=some (.int .i64 fO)/\U.cell? ⟨w.heap.size,1,none⟩=some (.string aK)/\U.cell? ⟨w.heap.size,2,none⟩=some (.string bq)/\U.cell? ⟨w.heap.size,3,none⟩=some (.string cy)/\U.cell? ⟨w.heap.size,4,none⟩=some (.bool cA)/\U.cell? ⟨w.heap.size,5,none⟩=some (.string eF)/\U.cell? ⟨w.heap.size,6,none⟩=some (.bool cN)/\U.cell? ⟨w.heap.size,7,none⟩=some dom)/\U.cell? ⟨w.heap.size+1,0,none⟩=some (.string user)/\U.cell? ⟨w.heap.size+1,1,none⟩=some (.string pass)from fun U hU=>by
  have j1:=(hU.block w.heap.size ab).trans k1;have j2:=(hU.block (w.heap.size+1) ab).trans k2;exact⟨by simp[World.cell?,j1],by simp[World.cell?,j2]⟩)
 have rC:=O (show∀U,Below w2.heap.size w2 U->Fr aS w U from fun U hU=>dz.trans (fj hU));obtain⟨b,hb⟩:∃b,b=w2.heap.size:=⟨_,rfl⟩;obtain⟨w4,qt⟩:∃w4,w4=w2.alloc (.cells #[.pointer none,.slice none 0 0] 189):=⟨_,rfl⟩;have tK:vA b b [] w4:=by rw[qt,hb];exact Lib.IsBuilderF.of (FA.new w2)
 have hB4:Below w2.heap.size w2 w4:=by rw[qt];exact(Below.refl _ w2).alloc (ay _) _
 have hs4:w4.heap.size=b+1:=by rw[qt,hb];simp
 have nD:=O eA;have NS:=O qt;have hkk:(k:Int)<=4294967295:=ab;have QD:¬(k:Int)<1:=ab;have Xz:¬(4294967295:Int)<(k:Int):=ab;obtain⟨⟨c0,c1,c2,c3,c4,c5,c6,c7⟩,d0,d1⟩:=HC.o w2 (Below.refl _ _);rw[eA]at c0 c1 c2 c3 c4 c5 c6 c7 d0 d1;clear qt hx hq dz k1 k2;have uC:=O hb;have qW:=O (show b=w.heap.size+1+1 from ab);have HB:=O hb.symm;have Y':=O tK;have VE:=O hB4
 have HNL:=O (show(bA (pd fO cA)).size<=12 by
  show(pd fO cA).length<=12;unfold pd;split<;>cases cA<;>decide)
 have EO:=O (show(bA (jt k)).size<=8 by show(jt k).length<=8;unfold jt;rw[nK];exact ay _);clear tK hB4;obtain⟨dg,hdg⟩:∃dg,dg=zk fO cy x:=⟨_,rfl⟩;have Ak:=O hdg;clear hdg;rcases HQ.o with hq0|hq0<;>rcases HS.o with hs0|hs0<;>subst hq0<;>subst hs0
 all_goals
  go_enter func72,ntmps72;go_wp2_with fail
  rw[<-nD.o, <-NS.o];rw[<-qW.o];refine(ec b b [] ⟨#[68,105,103,101,115,116,32]⟩ w4 Y'.o ag ab).mono ?_;rintro e w5⟨rfl,EU,AI,_⟩;have hs5:=AI.size;obtain⟨d,hd⟩:∃d,d=w5.heap.size:=⟨_,rfl⟩;obtain⟨w6,zx⟩:∃w6,w6=w5.alloc (.cells #[.bool false] 4):=⟨_,rfl⟩;have Ck:=O (show b<d from ab);have ad0:Below w2.heap.size w2 w6:=by rw[zx];exact(VE.o.trans (uC.o▸AI)).alloc (by have:=VE.o.size;omega) _
  have S0:=O (show St b d 0 w2 [] w6 from⟨by rw[zx];exact EU.fG ((ae aS w5).alloc _),by rw[zx,hd];exact aC _ _,ad0,by rw[zx];simp;omega,ay _,ag⟩);have QQ:=O zx;have BL:=O hd;clear c0 c1 c2 c3 c4 c5 c6 c7 d0 d1 EU AI zx;obtain⟨⟨c0,c1,c2,c3,c4,c5,c6,c7⟩,d0,d1⟩:=HC.o w6 S0.o.rA;rw[QQ.o]at c0 c1 c2 c3 c4 c5 c6 c7 d0 d1;go_wp2_with fail
  rw[<-BL.o, <-QQ.o, <-qW.o];refine(lF b d 0 w2 _ _ Pg _ user true rfl uC.o Ck.o ag ag ab S0.o).mono ?_;rintro e W1⟨rfl,s1⟩;obtain⟨L1,l1,s1⟩:=s1.named;have S1:=O s1;have E1:=O l1;clear c0 c1 c2 c3 c4 c5 c6 c7 d0 d1 s1 l1;obtain⟨⟨c0,c1,c2,c3,c4,c5,c6,c7⟩,d0,d1⟩:=HC.o W1 S1.o.rA;go_wp2_with fail
  rw[<-BL.o, <-qW.o];refine(lF b d 1 w2 _ _ vt _ aK true rfl uC.o Ck.o ag ag ab S1.o).mono ?_;rintro e W2⟨rfl,s2⟩;obtain⟨L2,l2,s2⟩:=s2.named;have S2:=O s2;have E2:=O l2;clear c0 c1 c2 c3 c4 c5 c6 c7 d0 d1 s2 l2;obtain⟨⟨c0,c1,c2,c3,c4,c5,c6,c7⟩,d0,d1⟩:=HC.o W2 S2.o.rA;go_wp2_with fail
  rw[<-BL.o, <-qW.o];refine(lF b d 2 w2 _ _ vu _ bq true rfl uC.o Ck.o ag ag ab S2.o).mono ?_;rintro e W3⟨rfl,s3⟩;obtain⟨L3,l3,s3⟩:=s3.named;have S3:=O s3;have E3:=O l3;clear c0 c1 c2 c3 c4 c5 c6 c7 d0 d1 s3 l3;obtain⟨⟨c0,c1,c2,c3,c4,c5,c6,c7⟩,d0,d1⟩:=HC.o W3 S3.o.rA;go_wp2_with fail
  rw[<-BL.o, <-qW.o];refine(lF b d 3 w2 _ _ Yr _ target true rfl uC.o Ck.o ag ag ab S3.o).mono ?_;rintro e W4⟨rfl,s4⟩;obtain⟨L4,l4,s4⟩:=s4.named;have S4:=O s4;have E4:=O l4;clear c0 c1 c2 c3 c4 c5 c6 c7 d0 d1 s4 l4;obtain⟨⟨c0,c1,c2,c3,c4,c5,c6,c7⟩,d0,d1⟩:=HC.o W4 S4.o.rA;go_wp2_with fail
  refine(adZ.o W4 (rC.o _ S4.o.rA)).mono ?_;rintro e wr⟨rfl,cL⟩;have S5:=O (S4.o.Kr cL uC.o);clear c0 c1 c2 c3 c4 c5 c6 c7 d0 d1 cL;obtain⟨⟨c0,c1,c2,c3,c4,c5,c6,c7⟩,d0,d1⟩:=HC.o wr S5.o.rA;go_wp2_with fail
  rw[<-BL.o, <-qW.o];refine(lF b d 4 w2 _ _ Ph _ (nZ x) true rfl uC.o Ck.o ag ag ab S5.o).mono ?_;rintro e W6⟨rfl,s6⟩;obtain⟨L6,l6,s6⟩:=s6.named;have S6:=O s6;have E6:=O l6;clear c0 c1 c2 c3 c4 c5 c6 c7 d0 d1 s6 l6;obtain⟨⟨c0,c1,c2,c3,c4,c5,c6,c7⟩,d0,d1⟩:=HC.o W6 S6.o.rA;go_wp2_with fail
  refine(NAME.o W6).mono ?_;rintro e wn⟨rfl,FQ⟩;have S7:=O (S6.o.Kr FQ uC.o);clear c0 c1 c2 c3 c4 c5 c6 c7 d0 d1 FQ;obtain⟨⟨c0,c1,c2,c3,c4,c5,c6,c7⟩,d0,d1⟩:=HC.o wn S7.o.rA;go_wp2_with fail
  rw[<-BL.o, <-qW.o];refine(lF b d 5 w2 _ _ yO _ _ false rfl uC.o Ck.o ag ag (by have:=HNL.o;omega) S7.o).mono ?_;rintro e W8⟨rfl,s8⟩;obtain⟨L8,l8,s8⟩:=s8.named;have S8:=O s8;have E8:=O l8;clear c0 c1 c2 c3 c4 c5 c6 c7 d0 d1 s8 l8;obtain⟨⟨c0,c1,c2,c3,c4,c5,c6,c7⟩,d0,d1⟩:=HC.o W8 S8.o.rA;go_wp2_with fail
  rw[<-BL.o, <-qW.o];refine(lF b d 6 w2 _ _ JQ _ _ false rfl uC.o Ck.o ag ag ag S8.o).mono ?_;rintro e W9⟨rfl,s9⟩;obtain⟨L9,l9,s9⟩:=s9.named;have S9:=O s9;have E9:=O l9;clear c0 c1 c2 c3 c4 c5 c6 c7 d0 d1 s9 l9;obtain⟨⟨c0,c1,c2,c3,c4,c5,c6,c7⟩,d0,d1⟩:=HC.o W9 S9.o.rA;go_wp2_with fail
  refine(abK.o W9 (rC.o _ S9.o.rA)).mono ?_;rintro e wc⟨rfl,hfc⟩;have XJ:=O (S9.o.Kr hfc uC.o);clear c0 c1 c2 c3 c4 c5 c6 c7 d0 d1 hfc;obtain⟨⟨c0,c1,c2,c3,c4,c5,c6,c7⟩,d0,d1⟩:=HC.o wc XJ.o.rA;go_wp2_with fail
  rw[<-BL.o, <-qW.o];refine(lF b d 7 w2 _ _ nNc _ (bA (jt k)) false rfl uC.o Ck.o ag ag (by have:=EO.o;omega) XJ.o).mono ?_;rintro e W11⟨rfl,ZH⟩;obtain⟨L11,l11,ZH⟩:=ZH.named;have ZI:=O ZH;have E11:=O l11;clear c0 c1 c2 c3 c4 c5 c6 c7 d0 d1 ZH l11;obtain⟨⟨c0,c1,c2,c3,c4,c5,c6,c7⟩,d0,d1⟩:=HC.o W11 ZI.o.rA;go_wp2_with fail
  rw[<-BL.o, <-qW.o];refine(lF b d 8 w2 _ _ Ci _ bK true rfl uC.o Ck.o ag ag ab ZI.o).mono ?_;rintro e W12⟨rfl,s12⟩;obtain⟨L12,l12,s12⟩:=s12.named;have S12:=O s12;have E12:=O l12;clear c0 c1 c2 c3 c4 c5 c6 c7 d0 d1 s12 l12;obtain⟨⟨c0,c1,c2,c3,c4,c5,c6,c7⟩,d0,d1⟩:=HC.o W12 S12.o.rA;by_cases ho:cy.data.toList.isEmpty=true
  ·have o1:cy.toList=[]:=by rw[aO];exact gA.1 ho
   have P1:C' cy.data.toList=[]:=by unfold C';rw[aA ho]
   have o2:(cy.toList== [])=true:=by rw[o1];rfl
   have o3:cy.toList.isEmpty=true:=by rw[o1];rfl
   skip
   have D2:=pG S12.o.hd;rw[BL.o]at D2;have BC:=O (show dg.items=L12 by rw[Ak.o,E12.o,E11.o,E9.o,E8.o,E6.o,E4.o,E3.o,E2.o,E1.o,HX.o];exact(show vI _ _ _ _ _ _++(C_ _ _++(Ug _ _ _++C' cy.data.toList))=_ by rw[P1];rfl));cases oP:xT L12 with
   |true =>
    have Cp:=O (show dg.fair=false by have hb:=jF dg;rw[BC.o,oP]at hb;simpa using hb.symm);rw[oP]at D2;go_wp2;go_ret2;exact⟨rC.o _ S12.o.rA,Or.inl ⟨Ak.o▸Cp.o,_,_,rfl⟩⟩
   |false =>
    rw[oP]at D2;have rT:=O (jG (d:=dg) (by rw[BC.o];exact oP));have VF:=O (jH rT.o);go_wp2_with fail
    rw[<-qW.o];refine(Builder_String_any_k b b (vH L12) W12 (by have h:=S12.o.hb;exact h) (S12.o.sz)).mono ?_;rintro e wz⟨rfl,_,Ms,_⟩;go_wp2;go_ret2;refine⟨rC.o _ ((S12.o.rA).trans (uC.o▸Ms)),Or.inr ⟨ag,by rw[HX.o],by rw[HX.o];exact lW,by rw[HX.o];exact rS,Ak.o▸rT.o,?_⟩⟩;rw[<-Ak.o, <-VF.o,BC.o];rfl
  ·have Ey:cy.data.toList.isEmpty=false:=by simpa using ho
   have P1:C' cy.data.toList=[(lZ,cy.data.toList,true)]:=by unfold C';rw[ar ho]
   have o1:¬cy.toList=[]:=by rw[aO];intro h;rw[h]at Ey;cases Ey
   have o2:(cy.toList== [])=false:=aL.2 o1;have o3:cy.toList.isEmpty=false:=by rw[aO];exact Ey
   go_wp2_with fail
   rw[<-BL.o, <-qW.o];refine(lF b d 9 w2 _ _ lZ _ cy true rfl uC.o Ck.o ag ag ab S12.o).mono ?_;rintro e W13⟨rfl,s13⟩;obtain⟨L13,l13,s13⟩:=s13.named;have S13:=O s13;have E13:=O l13;clear c0 c1 c2 c3 c4 c5 c6 c7 d0 d1 s13 l13;obtain⟨⟨c0,c1,c2,c3,c4,c5,c6,c7⟩,d0,d1⟩:=HC.o W13 S13.o.rA;have D2:=pG S13.o.hd;rw[BL.o]at D2
   have BC:=O (show dg.items=L13 by rw[Ak.o,E13.o,E12.o,E11.o,E9.o,E8.o,E6.o,E4.o,E3.o,E2.o,E1.o,HX.o];exact(show vI _ _ _ _ _ _++(C_ _ _++(Ug _ _ _++C' cy.data.toList))=_ by rw[P1];rfl));cases oP:xT L13 with
   |true =>
    have Cp:=O (show dg.fair=false by have hb:=jF dg;rw[BC.o,oP]at hb;simpa using hb.symm);rw[oP]at D2;go_wp2;go_ret2;exact⟨rC.o _ S13.o.rA,Or.inl ⟨Ak.o▸Cp.o,_,_,rfl⟩⟩
   |false =>
    rw[oP]at D2;have rT:=O (jG (d:=dg) (by rw[BC.o];exact oP));have VF:=O (jH rT.o);go_wp2_with fail
    rw[<-qW.o];refine(Builder_String_any_k b b (vH L13) W13 (by have h:=S13.o.hb;exact h) (S13.o.sz)).mono ?_;rintro e wz⟨rfl,_,Ms,_⟩;go_wp2;go_ret2;refine⟨rC.o _ ((S13.o.rA).trans (uC.o▸Ms)),Or.inr ⟨ag,by rw[HX.o],by rw[HX.o];exact lW,by rw[HX.o];exact rS,Ak.o▸rT.o,?_⟩⟩;rw[<-Ak.o, <-VF.o,BC.o];rfl
def Cq(fO:Int)(cy:aj)(x:nL)(n:Int):Prop:=((fO=2\/fO=3)/\(x.eF.data.toList=[]\/x.eF.data.toList=lY\/x.eF.data.toList=pZ))/\(1<=n/\n<=4294967295)/\(zk fO cy x).fair=true
def oQ(fO:Int)(cy:aj)(x:nL)(n:Int)(w:World)(e:Ending)(w':World):Prop :=
 Fr aS w w'/\((¬Cq fO cy x n/\∃t v,e=.returned (.tuple #[.string ⟨#[]⟩,.iface t v]))\/(Cq fO cy x n/\e=.returned (.tuple #[.string (bA (zk fO cy x).text),.nilIface])))
theorem RE(fO:Int)(aK bq cy eF user pass method target body bK:aj)(cA cN:Bool)(dom:Value)(n:Int)(w:World)(dX:dom.oneCell'=true)
  (x1:aK.size<=5000)(x2:bq.size<=5000)(x3:cy.size<=5000)(x4:user.size<=5000)(x5:pass.size<=5000)(x6:method.size<=5000)(x7:target.size<=5000)(x8:body.size<=5000)(x9:bK.size<=5000)
  (M8:oI w 9 .u8 SY)(hh:sW fO w) :
  aB 72 #[.agg #[.int .i64 fO,.string aK,.string bq,.string cy,.bool cA,.string eF,.bool cN,dom],.agg #[.string user,.string pass],.string method,.string target,.string body,.string bK,.int .i64 n] w (oQ fO cy ⟨decide (fO=3),cA,aK,bq,eF,user,pass,method,target,body,bK,n.toNat⟩ n w):=by
 have ym:∀l:Bs,eF.toList=l->eF=⟨l.toArray⟩:=fun l h=>Go.WideShapes.bytes_inj (by rw[<-aO,h]);by_cases hsq:(fO=2\/fO=3)/\(eF.toList=[]\/eF.toList=[97,117,116,104]\/eF.toList=[97,117,116,104,45,105,110,116])
 ·obtain⟨hs,hq⟩:=hsq;by_cases hn:1<=n/\n<=4294967295
  ·obtain⟨Jg,AE⟩:=hn;obtain⟨k,rfl⟩:∃k:Nat,n=(k:Int):=⟨n.toNat,ab⟩;have key:aB 72 #[.agg #[.int .i64 fO,.string aK,.string bq,.string cy,.bool cA,.string eF,.bool cN,dom],.agg #[.string user,.string pass],.string method,.string target,.string body,.string bK,.int .i64 (k:Int)] w (Hp fO cy ⟨decide (fO=3),cA,aK,bq,eF,user,pass,method,target,body,bK,k⟩ k w):=by
    rcases hq with hq|hq|hq
    ·exact VD fO aK bq cy eF user pass method target body bK cA cN dom k w dX (ym _ hq) hs ab ab x1 x2 x3 x4 x5 x6 x7 x8 x9 M8 hh
    ·exact Lk fO aK bq cy eF user pass method target body bK cA cN dom k w dX (Or.inl (ym _ hq)) hs ab ab x1 x2 x3 x4 x5 x6 x7 x8 x9 M8 hh
    ·exact Lk fO aK bq cy eF user pass method target body bK cA cN dom k w dX (Or.inr (ym _ hq)) hs ab ab x1 x2 x3 x4 x5 x6 x7 x8 x9 M8 hh
   refine key.mono ?_;rintro e w'⟨hf,hm⟩;refine⟨hf,?_⟩;rcases hm with ⟨hm,hr⟩|⟨h1,h2,h3,h4,h5,h6⟩
   ·exact Or.inl ⟨fun hg=>(by have hg:=hg.2.2;rw[Int.toNat_natCast,hm]at hg;cases hg),hr⟩
   ·refine Or.inr ⟨⟨⟨h1,?_⟩,⟨ab,ab⟩,h5⟩,h6⟩;show eF.data.toList=[]\/eF.data.toList=lY\/eF.data.toList=pZ;rw[<-aO];exact hq
  ·have Hi:n<1\/4294967295<n:=ab;have hng:∀x,¬Cq fO cy x n:=fun x h=>hn h.2.1;clear hn;have HG:∀t v (w':World),Fr aS w w'->oQ fO cy ⟨decide (fO=3),cA,aK,bq,eF,user,pass,method,target,body,bK,n.toNat⟩ n w (.returned (.tuple #[.string ⟨#[]⟩,.iface t v])) w':=fun t v w' hf=>⟨hf,Or.inl ⟨hng _,t,v,rfl⟩⟩;have HGG:=O HG;clear HG hng
   generalize oQ fO cy ⟨decide (fO=3),cA,aK,bq,eF,user,pass,method,target,body,bK,n.toNat⟩ n w=Q at *
   have dz:Fr aS w ((w.alloc (.cells #[.int .i64 fO,.string aK,.string bq,.string cy,.bool cA,.string eF,.bool cN,dom] 127)).alloc (.cells #[.string user,.string pass] 31)):=((ae aS w).alloc _).alloc _;have fY:=O dz;clear dz;rcases Hi with hn|hn
   ·rcases hs with rfl|rfl<;>rcases hq with hq|hq|hq<;>obtain rfl:=ym _ hq<;>clear hq <;>
     (go_enter func72,ntmps72
      go_wp2
      (first|go_ret2|skip)
      exact HGG.o _ _ _ fY.o)
   ·have Pm:¬n<1:=ab;rcases hs with rfl|rfl<;>rcases hq with hq|hq|hq<;>obtain rfl:=ym _ hq<;>clear hq <;>
     (go_enter func72,ntmps72
      go_wp2
      (first|go_ret2|skip)
      exact HGG.o _ _ _ fY.o)
 ·have hng:∀x:nL,x.eF=eF->¬Cq fO cy x n:=fun x hx h=>hsq ⟨h.1.1,by rw[<-hx,aO];exact h.1.2⟩;have HG:∀t v (w':World),Fr aS w w'->oQ fO cy ⟨decide (fO=3),cA,aK,bq,eF,user,pass,method,target,body,bK,n.toNat⟩ n w (.returned (.tuple #[.string ⟨#[]⟩,.iface t v])) w':=fun t v w' hf=>⟨hf,Or.inl ⟨hng _ rfl,t,v,rfl⟩⟩;have HGG:=O HG;clear HG hng
  generalize oQ fO cy ⟨decide (fO=3),cA,aK,bq,eF,user,pass,method,target,body,bK,n.toNat⟩ n w=Q at *
  have dz:Fr aS w ((w.alloc (.cells #[.int .i64 fO,.string aK,.string bq,.string cy,.bool cA,.string eF,.bool cN,dom] 127)).alloc (.cells #[.string user,.string pass] 31)):=((ae aS w).alloc _).alloc _;have fY:=O dz;clear dz;by_cases hs:fO=2\/fO=3
  ·have hq:¬(eF.toList=[]\/eF.toList=[97,117,116,104]\/eF.toList=[97,117,116,104,45,105,110,116]):=fun h=>hsq ⟨hs,h⟩;have q1:¬eF.toList=[]:=fun h=>hq (Or.inl h);have q2:¬eF.toList=[97,117,116,104]:=fun h=>hq (Or.inr (Or.inl h));have q3:¬eF.toList=[97,117,116,104,45,105,110,116]:=fun h=>hq (Or.inr (Or.inr h));have q4:(eF.toList== [])=false:=aL.2 q1
   have q5:(eF.toList== [97,117,116,104])=false:=aL.2 q2;have q6:(eF.toList== [97,117,116,104,45,105,110,116])=false:=aL.2 q3;have q7:eF.toList.isEmpty=false:=by cases hz:eF.toList with|nil=>exact absurd hz q1|cons _ _=>rfl
   clear hsq hq ym;rcases hs with rfl|rfl
   ·go_enter func72,ntmps72;go_wp2
    (first|go_ret2|skip)
    exact HGG.o _ _ _ fY.o
   ·go_enter func72,ntmps72;go_wp2
    (first|go_ret2|skip)
    exact HGG.o _ _ _ fY.o
  ·have s2:¬fO=2:=fun h=>hs (Or.inl h);have s3:¬fO=3:=fun h=>hs (Or.inr h);clear hs hsq ym;go_enter func72,ntmps72;go_wp2
   (first|go_ret2|skip)
   exact HGG.o _ _ _ fY.o
