/- Lemmas for the law's walk. -/
import Derived.Test.YtnckmcnffadjoaaGreatDoorPk12
set_option maxRecDepth 100000
set_option maxHeartbeats 16000000
set_option linter.unusedSimpArgs false
namespace Go.Proofs.YtnckmcnffadjoaaGreatDoor
open Go.Proofs.Tryz
open Go.RowKit
theorem Wm(fV:Int)(aM bu cz eJ user pass method target body bS:aj)(cD cR:Bool)(dom:Value)(k:Nat)(w:World)(ef:dom.oneCell'=true)
  (hq:eJ=⟨#[]⟩)(hs:fV=2\/fV=3)(lZ:1<=k)(sH:k<=4294967295)
  (x1:aM.size<=5000)(x2:bu.size<=5000)(x3:cz.size<=5000)(x4:user.size<=5000)(x5:pass.size<=5000)(x6:method.size<=5000)(x7:target.size<=5000)(x8:body.size<=5000)(x9:bS.size<=5000)
  (NX:ow w 9 .u8 Rz)(hh:tQ fV w) :
  aB 50 #[.agg #[.int .i64 fV,.string aM,.string bu,.string cz,.bool cD,.string eJ,.bool cR,dom],.agg #[.string user,.string pass],.string method,.string target,.string body,.string bS,.int .i64 (k:Int)] w (IW fV cz ⟨decide (fV=3),cD,aM,bu,eJ,user,pass,method,target,body,bS,k⟩ k w):=by
 obtain⟨x,hx⟩:∃x:n9,x=⟨decide (fV=3),cD,aM,bu,eJ,user,pass,method,target,body,bS,k⟩:=⟨_,rfl⟩;have xq:eJ.size<=5000:=by rw[hq];decide
 have pz:x.Small:=by rw[hx];exact⟨by show aM.size<=_;omega,by show bu.size<=_;omega,by show eJ.size<=_;omega,by show user.size<=_;omega,by show pass.size<=_;omega,by show method.size<=_;omega,by show target.size<=_;omega,by show body.size<=_;omega,by show bS.size<=_;omega,by show k<_;omega⟩
 rw[<-hx];have aeT:=O (show∀U,Fr aS w U->aB 102 #[.agg #[.int .i64 fV,.string aM,.string bu,.string cz,.bool cD,.string eJ,.bool cR,dom],.agg #[.string user,.string pass],.string method,.string target,.string body,.string bS,.int .i64 (k:Int)] U fun e w'=>e=.returned (.string (ox x))/\Fr aS U w' from fun U hU=>by
  have:=zT ⟨fV,aM,bu,cz,cD,eJ,cR,dom⟩ x U pz (by rw[hx]) (by rw[hx]) (by rw[hx]) (by rw[hx]) (by rw[hx]) ef (NX.fr hU) (hh.fr hU);rw[hx]at this ⊢;exact this)
 have acE:=O (show∀U,Fr aS w U->aB 104 #[.int .i64 (k:Int)] U fun e w'=>e=.returned (.string (bA (jK k)))/\Fr aS U w' from fun U hU=>rF k U ab (NX.fr hU));have NAME:=O (fun U=>Lh fV aM bu cz eJ cD cR dom U);have hrs:=D2 x;have HX:=O hx;have HQ:=O hq;have HS:=O hs;clear NX hh pz
 obtain⟨w2,eG⟩:∃w2,w2=(w.alloc (.cells #[.int .i64 fV,.string aM,.string bu,.string cz,.bool cD,.string eJ,.bool cR,dom] 112)).alloc (.cells #[.string user,.string pass] 39):=⟨_,rfl⟩;have dE:Fr aS w w2:=by rw[eG];exact((ae aS w).alloc _).alloc _
 have xI:w2.heap.size=w.heap.size+2:=by rw[eG];simp
 have k1:w2.heap[w.heap.size]?=some (.cells #[.int .i64 fV,.string aM,.string bu,.string cz,.bool cD,.string eJ,.bool cR,dom] 112 (0,0)):=by rw[eG];exact((ae aS _).alloc _).keep (aC _ _) id
 have k2:w2.heap[w.heap.size+1]?=some (.cells #[.string user,.string pass] 39 (0,0)):=by
  have h:=aC (w.alloc (.cells #[.int .i64 fV,.string aM,.string bu,.string cz,.bool cD,.string eJ,.bool cR,dom] 112)) (.cells #[.string user,.string pass] 39);rw[bP]at h;rw[eG];exact h
 have HC:=O (show∀U,Below w2.heap.size w2 U->(U.cell? ⟨w.heap.size,0,none⟩=some (.int .i64 fV)/\U.cell? ⟨w.heap.size,1,none⟩=some (.string aM)/\U.cell? ⟨w.heap.size,2,none⟩=some (.string bu)/\U.cell? ⟨w.heap.size,3,none⟩=some (.string cz)/\U.cell? ⟨w.heap.size,4,none⟩=some (.bool cD)/\U.cell? ⟨w.heap.size,5,none⟩=some (.string eJ)/\U.cell? ⟨w.heap.size,6,none⟩=some (.bool cR)/\U.cell? ⟨w.heap.size,7,none⟩=some dom)/\U.cell? ⟨w.heap.size+1,0,none⟩=some (.string user)/\U.cell? ⟨w.heap.size+1,1,none⟩=some (.string pass)from fun U hU=>by
  have j1:=(hU.block w.heap.size ab).trans k1;have j2:=(hU.block (w.heap.size+1) ab).trans k2;exact⟨by simp[World.cell?,j1],by simp[World.cell?,j2]⟩)
 have rU:=O (show∀U,Below w2.heap.size w2 U->Fr aS w U from fun U hU=>dE.trans (fx hU));obtain⟨b,hb⟩:∃b,b=w2.heap.size:=⟨_,rfl⟩;obtain⟨w4,qQ⟩:∃w4,w4=w2.alloc (.cells #[.pointer none,.slice none 0 0] 179):=⟨_,rfl⟩;have vQ:wG b b [] w4:=by rw[qQ,hb];exact Lib.IsBuilderF.of (Gw.new w2)
 have hB4:Below w2.heap.size w2 w4:=by rw[qQ];exact(Below.refl _ w2).alloc (ay _) _
 have hs4:w4.heap.size=b+1:=by rw[qQ,hb];simp
 have nP:=O eG;have OG:=O qQ;have hkk:(k:Int)<=4294967295:=ab;have JZ:¬(k:Int)<1:=ab;have Yu:¬(4294967295:Int)<(k:Int):=ab;obtain⟨⟨c0,c1,c2,c3,c4,c5,c6,c7⟩,d0,d1⟩:=HC.o w2 (Below.refl _ _);rw[eG]at c0 c1 c2 c3 c4 c5 c6 c7 d0 d1;clear qQ hx hq dE k1 k2;have vg:=O hb;have rB:=O (show b=w.heap.size+1+1 from ab);have HB:=O hb.symm;have Z6:=O vQ;have Wn:=O hB4
 have HNL:=O (show(bA (pF fV cD)).size<=12 by
  show(pF fV cD).length<=12;unfold pF;split<;>cases cD<;>decide)
 have FN:=O (show(bA (jK k)).size<=8 by show(jK k).length<=8;unfold jK;rw[nZ];exact ay _);clear vQ hB4;obtain⟨dg,hdg⟩:∃dg,dg=zU fV cz x:=⟨_,rfl⟩;have AZ:=O hdg;clear hdg;obtain rfl:=HQ.o;rcases HS.o with hs0|hs0<;>subst hs0
 all_goals
  go_enter func50,ntmps50;go_wp2_with fail
  rw[<-nP.o, <-OG.o];rw[<-rB.o];refine(ew b b [] ⟨#[68,105,103,101,115,116,32]⟩ w4 Z6.o ag ab).mono ?_;rintro e w5⟨rfl,FT,xN,_⟩;have hs5:=xN.size;obtain⟨d,hd⟩:∃d,d=w5.heap.size:=⟨_,rfl⟩;obtain⟨w6,Ae⟩:∃w6,w6=w5.alloc (.cells #[.bool false] 4):=⟨_,rfl⟩;have C0:=O (show b<d from ab);have aeU:Below w2.heap.size w2 w6:=by rw[Ae];exact(Wn.o.trans (vg.o▸xN)).alloc (by have:=Wn.o.size;omega) _
  have S0:=O (show St b d 0 w2 [] w6 from⟨by rw[Ae];exact FT.fN ((ae aS w5).alloc _),by rw[Ae,hd];exact aC _ _,aeU,by rw[Ae];simp;omega,ay _,ag⟩);have RC:=O Ae;have Cq:=O hd;clear c0 c1 c2 c3 c4 c5 c6 c7 d0 d1 FT xN Ae;obtain⟨⟨c0,c1,c2,c3,c4,c5,c6,c7⟩,d0,d1⟩:=HC.o w6 S0.o.ru;rw[RC.o]at c0 c1 c2 c3 c4 c5 c6 c7 d0 d1;go_wp2_with fail
  rw[<-Cq.o, <-RC.o, <-rB.o];refine(lW b d 0 w2 _ _ P_ _ user true rfl vg.o C0.o ag ag ab S0.o).mono ?_;rintro e W1⟨rfl,s1⟩;obtain⟨L1,l1,s1⟩:=s1.named;have S1:=O s1;have E1:=O l1;clear c0 c1 c2 c3 c4 c5 c6 c7 d0 d1 s1 l1;obtain⟨⟨c0,c1,c2,c3,c4,c5,c6,c7⟩,d0,d1⟩:=HC.o W1 S1.o.ru;go_wp2_with fail
  rw[<-Cq.o, <-rB.o];refine(lW b d 1 w2 _ _ wB _ aM true rfl vg.o C0.o ag ag ab S1.o).mono ?_;rintro e W2⟨rfl,s2⟩;obtain⟨L2,l2,s2⟩:=s2.named;have S2:=O s2;have E2:=O l2;clear c0 c1 c2 c3 c4 c5 c6 c7 d0 d1 s2 l2;obtain⟨⟨c0,c1,c2,c3,c4,c5,c6,c7⟩,d0,d1⟩:=HC.o W2 S2.o.ru;go_wp2_with fail
  rw[<-Cq.o, <-rB.o];refine(lW b d 2 w2 _ _ wC _ bu true rfl vg.o C0.o ag ag ab S2.o).mono ?_;rintro e W3⟨rfl,s3⟩;obtain⟨L3,l3,s3⟩:=s3.named;have S3:=O s3;have E3:=O l3;clear c0 c1 c2 c3 c4 c5 c6 c7 d0 d1 s3 l3;obtain⟨⟨c0,c1,c2,c3,c4,c5,c6,c7⟩,d0,d1⟩:=HC.o W3 S3.o.ru;go_wp2_with fail
  rw[<-Cq.o, <-rB.o];refine(lW b d 3 w2 _ _ Zl _ target true rfl vg.o C0.o ag ag ab S3.o).mono ?_;rintro e W4⟨rfl,s4⟩;obtain⟨L4,l4,s4⟩:=s4.named;have S4:=O s4;have E4:=O l4;clear c0 c1 c2 c3 c4 c5 c6 c7 d0 d1 s4 l4;obtain⟨⟨c0,c1,c2,c3,c4,c5,c6,c7⟩,d0,d1⟩:=HC.o W4 S4.o.ru;go_wp2_with fail
  refine(aeT.o W4 (rU.o _ S4.o.ru)).mono ?_;rintro e wr⟨rfl,cP⟩;have S5:=O (S4.o.Ls cP vg.o);clear c0 c1 c2 c3 c4 c5 c6 c7 d0 d1 cP;obtain⟨⟨c0,c1,c2,c3,c4,c5,c6,c7⟩,d0,d1⟩:=HC.o wr S5.o.ru;go_wp2_with fail
  rw[<-Cq.o, <-rB.o];refine(lW b d 4 w2 _ _ P' _ (ox x) true rfl vg.o C0.o ag ag ab S5.o).mono ?_;rintro e W6⟨rfl,s6⟩;obtain⟨L6,l6,s6⟩:=s6.named;have S6:=O s6;have E6:=O l6;clear c0 c1 c2 c3 c4 c5 c6 c7 d0 d1 s6 l6;obtain⟨⟨c0,c1,c2,c3,c4,c5,c6,c7⟩,d0,d1⟩:=HC.o W6 S6.o.ru;go_wp2_with fail
  refine(NAME.o W6).mono ?_;rintro e wn⟨rfl,Fv⟩;have S7:=O (S6.o.Ls Fv vg.o);clear c0 c1 c2 c3 c4 c5 c6 c7 d0 d1 Fv;obtain⟨⟨c0,c1,c2,c3,c4,c5,c6,c7⟩,d0,d1⟩:=HC.o wn S7.o.ru;go_wp2_with fail
  rw[<-Cq.o, <-rB.o];refine(lW b d 5 w2 _ _ zy _ _ false rfl vg.o C0.o ag ag (by have:=HNL.o;omega) S7.o).mono ?_;rintro e W8⟨rfl,s8⟩;obtain⟨L8,l8,s8⟩:=s8.named;have S8:=O s8;have E8:=O l8;clear c0 c1 c2 c3 c4 c5 c6 c7 d0 d1 s8 l8;obtain⟨⟨c0,c1,c2,c3,c4,c5,c6,c7⟩,d0,d1⟩:=HC.o W8 S8.o.ru;cases cD with
  |false =>
   by_cases ho:cz.data.toList.isEmpty=true
   ·have o1:cz.toList=[]:=by rw[aP];exact gK.1 ho
    have Hk:DP cz.data.toList=[]:=by unfold DP;rw[az ho]
    have o2:(cz.toList== [])=true:=by rw[o1];rfl
    have o3:cz.toList.isEmpty=true:=by rw[o1];rfl
    skip
    have EH:=pY S8.o.hd;rw[Cq.o]at EH;have Cj:=O (show dg.items=L8 by rw[AZ.o,E8.o,E6.o,E4.o,E3.o,E2.o,E1.o,HX.o];exact(show wO _ _ _ _ _ _++(DN _ _++(U1 _ _ _++DP cz.data.toList))=_ by rw[Hk];rfl));cases pj:yF L8 with
    |true =>
     have C9:=O (show dg.fair=false by have hb:=jV dg;rw[Cj.o,pj]at hb;simpa using hb.symm);rw[pj]at EH;go_wp2;go_ret2;exact⟨rU.o _ S8.o.ru,Or.inl ⟨AZ.o▸C9.o,_,_,rfl⟩⟩
    |false =>
     rw[pj]at EH;have sI:=O (jW (d:=dg) (by rw[Cj.o];exact pj));have Wo:=O (jX sI.o);go_wp2_with fail
     rw[<-rB.o];refine(Builder_String_any_k b b (wN L8) W8 (by have h:=S8.o.hb;exact h) (S8.o.sz)).mono ?_;rintro e wz⟨rfl,_,Nj,_⟩;go_wp2;go_ret2;refine⟨rU.o _ ((S8.o.ru).trans (vg.o▸Nj)),Or.inr ⟨ag,by rw[HX.o],by rw[HX.o];exact lZ,by rw[HX.o];exact sH,AZ.o▸sI.o,?_⟩⟩;rw[<-AZ.o, <-Wo.o,Cj.o];rfl
   ·have Ft:cz.data.toList.isEmpty=false:=by simpa using ho
    have Hk:DP cz.data.toList=[(mA,cz.data.toList,true)]:=by unfold DP;rw[aq ho]
    have o1:¬cz.toList=[]:=by rw[aP];intro h;rw[h]at Ft;cases Ft
    have o2:(cz.toList== [])=false:=aO.2 o1;have o3:cz.toList.isEmpty=false:=by rw[aP];exact Ft
    go_wp2_with fail
    rw[<-Cq.o, <-rB.o];refine(lW b d 6 w2 _ _ mA _ cz true rfl vg.o C0.o ag ag ab S8.o).mono ?_;rintro e W9⟨rfl,s9⟩;obtain⟨L9,l9,s9⟩:=s9.named;have S9:=O s9;have E9:=O l9;clear c0 c1 c2 c3 c4 c5 c6 c7 d0 d1 s9 l9;obtain⟨⟨c0,c1,c2,c3,c4,c5,c6,c7⟩,d0,d1⟩:=HC.o W9 S9.o.ru;have EH:=pY S9.o.hd;rw[Cq.o]at EH
    have Cj:=O (show dg.items=L9 by rw[AZ.o,E9.o,E8.o,E6.o,E4.o,E3.o,E2.o,E1.o,HX.o];exact(show wO _ _ _ _ _ _++(DN _ _++(U1 _ _ _++DP cz.data.toList))=_ by rw[Hk];rfl));cases pj:yF L9 with
    |true =>
     have C9:=O (show dg.fair=false by have hb:=jV dg;rw[Cj.o,pj]at hb;simpa using hb.symm);rw[pj]at EH;go_wp2;go_ret2;exact⟨rU.o _ S9.o.ru,Or.inl ⟨AZ.o▸C9.o,_,_,rfl⟩⟩
    |false =>
     rw[pj]at EH;have sI:=O (jW (d:=dg) (by rw[Cj.o];exact pj));have Wo:=O (jX sI.o);go_wp2_with fail
     rw[<-rB.o];refine(Builder_String_any_k b b (wN L9) W9 (by have h:=S9.o.hb;exact h) (S9.o.sz)).mono ?_;rintro e wz⟨rfl,_,Nj,_⟩;go_wp2;go_ret2;refine⟨rU.o _ ((S9.o.ru).trans (vg.o▸Nj)),Or.inr ⟨ag,by rw[HX.o],by rw[HX.o];exact lZ,by rw[HX.o];exact sH,AZ.o▸sI.o,?_⟩⟩;rw[<-AZ.o, <-Wo.o,Cj.o];rfl
  |true =>
   go_wp2_with fail
   rw[<-Cq.o, <-rB.o];refine(lW b d 6 w2 _ _ CY _ bS true rfl vg.o C0.o ag ag ab S8.o).mono ?_;rintro e W10⟨rfl,s10⟩;obtain⟨L10,l10,s10⟩:=s10.named;have YE:=O s10;have E10:=O l10;clear c0 c1 c2 c3 c4 c5 c6 c7 d0 d1 s10 l10;obtain⟨⟨c0,c1,c2,c3,c4,c5,c6,c7⟩,d0,d1⟩:=HC.o W10 YE.o.ru;by_cases ho:cz.data.toList.isEmpty=true
   ·have o1:cz.toList=[]:=by rw[aP];exact gK.1 ho
    have Hk:DP cz.data.toList=[]:=by unfold DP;rw[az ho]
    have o2:(cz.toList== [])=true:=by rw[o1];rfl
    have o3:cz.toList.isEmpty=true:=by rw[o1];rfl
    skip
    have EH:=pY YE.o.hd;rw[Cq.o]at EH;have Cj:=O (show dg.items=L10 by rw[AZ.o,E10.o,E8.o,E6.o,E4.o,E3.o,E2.o,E1.o,HX.o];exact(show wO _ _ _ _ _ _++(DN _ _++(U1 _ _ _++DP cz.data.toList))=_ by rw[Hk];rfl));cases pj:yF L10 with
    |true =>
     have C9:=O (show dg.fair=false by have hb:=jV dg;rw[Cj.o,pj]at hb;simpa using hb.symm);rw[pj]at EH;go_wp2;go_ret2;exact⟨rU.o _ YE.o.ru,Or.inl ⟨AZ.o▸C9.o,_,_,rfl⟩⟩
    |false =>
     rw[pj]at EH;have sI:=O (jW (d:=dg) (by rw[Cj.o];exact pj));have Wo:=O (jX sI.o);go_wp2_with fail
     rw[<-rB.o];refine(Builder_String_any_k b b (wN L10) W10 (by have h:=YE.o.hb;exact h) (YE.o.sz)).mono ?_;rintro e wz⟨rfl,_,Nj,_⟩;go_wp2;go_ret2;refine⟨rU.o _ ((YE.o.ru).trans (vg.o▸Nj)),Or.inr ⟨ag,by rw[HX.o],by rw[HX.o];exact lZ,by rw[HX.o];exact sH,AZ.o▸sI.o,?_⟩⟩;rw[<-AZ.o, <-Wo.o,Cj.o];rfl
   ·have Ft:cz.data.toList.isEmpty=false:=by simpa using ho
    have Hk:DP cz.data.toList=[(mA,cz.data.toList,true)]:=by unfold DP;rw[aq ho]
    have o1:¬cz.toList=[]:=by rw[aP];intro h;rw[h]at Ft;cases Ft
    have o2:(cz.toList== [])=false:=aO.2 o1;have o3:cz.toList.isEmpty=false:=by rw[aP];exact Ft
    go_wp2_with fail
    rw[<-Cq.o, <-rB.o];refine(lW b d 7 w2 _ _ mA _ cz true rfl vg.o C0.o ag ag ab YE.o).mono ?_;rintro e W11⟨rfl,s11⟩;obtain⟨L11,l11,s11⟩:=s11.named;have S11:=O s11;have E11:=O l11;clear c0 c1 c2 c3 c4 c5 c6 c7 d0 d1 s11 l11;obtain⟨⟨c0,c1,c2,c3,c4,c5,c6,c7⟩,d0,d1⟩:=HC.o W11 S11.o.ru;have EH:=pY S11.o.hd;rw[Cq.o]at EH
    have Cj:=O (show dg.items=L11 by rw[AZ.o,E11.o,E10.o,E8.o,E6.o,E4.o,E3.o,E2.o,E1.o,HX.o];exact(show wO _ _ _ _ _ _++(DN _ _++(U1 _ _ _++DP cz.data.toList))=_ by rw[Hk];rfl));cases pj:yF L11 with
    |true =>
     have C9:=O (show dg.fair=false by have hb:=jV dg;rw[Cj.o,pj]at hb;simpa using hb.symm);rw[pj]at EH;go_wp2;go_ret2;exact⟨rU.o _ S11.o.ru,Or.inl ⟨AZ.o▸C9.o,_,_,rfl⟩⟩
    |false =>
     rw[pj]at EH;have sI:=O (jW (d:=dg) (by rw[Cj.o];exact pj));have Wo:=O (jX sI.o);go_wp2_with fail
     rw[<-rB.o];refine(Builder_String_any_k b b (wN L11) W11 (by have h:=S11.o.hb;exact h) (S11.o.sz)).mono ?_;rintro e wz⟨rfl,_,Nj,_⟩;go_wp2;go_ret2;refine⟨rU.o _ ((S11.o.ru).trans (vg.o▸Nj)),Or.inr ⟨ag,by rw[HX.o],by rw[HX.o];exact lZ,by rw[HX.o];exact sH,AZ.o▸sI.o,?_⟩⟩;rw[<-AZ.o, <-Wo.o,Cj.o];rfl
theorem Mf(fV:Int)(aM bu cz eJ user pass method target body bS:aj)(cD cR:Bool)(dom:Value)(k:Nat)(w:World)(ef:dom.oneCell'=true)
  (hq:eJ=⟨#[97,117,116,104]⟩\/eJ=⟨#[97,117,116,104,45,105,110,116]⟩)(hs:fV=2\/fV=3)(lZ:1<=k)(sH:k<=4294967295)
  (x1:aM.size<=5000)(x2:bu.size<=5000)(x3:cz.size<=5000)(x4:user.size<=5000)(x5:pass.size<=5000)(x6:method.size<=5000)(x7:target.size<=5000)(x8:body.size<=5000)(x9:bS.size<=5000)
  (NX:ow w 9 .u8 Rz)(hh:tQ fV w) :
  aB 50 #[.agg #[.int .i64 fV,.string aM,.string bu,.string cz,.bool cD,.string eJ,.bool cR,dom],.agg #[.string user,.string pass],.string method,.string target,.string body,.string bS,.int .i64 (k:Int)] w (IW fV cz ⟨decide (fV=3),cD,aM,bu,eJ,user,pass,method,target,body,bS,k⟩ k w):=by
 obtain⟨x,hx⟩:∃x:n9,x=⟨decide (fV=3),cD,aM,bu,eJ,user,pass,method,target,body,bS,k⟩:=⟨_,rfl⟩;have xq:eJ.size<=5000:=by rcases hq with h|h<;>rw[h]<;>decide
 have pz:x.Small:=by rw[hx];exact⟨by show aM.size<=_;omega,by show bu.size<=_;omega,by show eJ.size<=_;omega,by show user.size<=_;omega,by show pass.size<=_;omega,by show method.size<=_;omega,by show target.size<=_;omega,by show body.size<=_;omega,by show bS.size<=_;omega,by show k<_;omega⟩
 rw[<-hx];have aeT:=O (show∀U,Fr aS w U->aB 102 #[.agg #[.int .i64 fV,.string aM,.string bu,.string cz,.bool cD,.string eJ,.bool cR,dom],.agg #[.string user,.string pass],.string method,.string target,.string body,.string bS,.int .i64 (k:Int)] U fun e w'=>e=.returned (.string (ox x))/\Fr aS U w' from fun U hU=>by
  have:=zT ⟨fV,aM,bu,cz,cD,eJ,cR,dom⟩ x U pz (by rw[hx]) (by rw[hx]) (by rw[hx]) (by rw[hx]) (by rw[hx]) ef (NX.fr hU) (hh.fr hU);rw[hx]at this ⊢;exact this)
 have acE:=O (show∀U,Fr aS w U->aB 104 #[.int .i64 (k:Int)] U fun e w'=>e=.returned (.string (bA (jK k)))/\Fr aS U w' from fun U hU=>rF k U ab (NX.fr hU));have NAME:=O (fun U=>Lh fV aM bu cz eJ cD cR dom U);have hrs:=D2 x;have HX:=O hx;have HQ:=O hq;have HS:=O hs;clear NX hh pz
 obtain⟨w2,eG⟩:∃w2,w2=(w.alloc (.cells #[.int .i64 fV,.string aM,.string bu,.string cz,.bool cD,.string eJ,.bool cR,dom] 112)).alloc (.cells #[.string user,.string pass] 39):=⟨_,rfl⟩;have dE:Fr aS w w2:=by rw[eG];exact((ae aS w).alloc _).alloc _
 have xI:w2.heap.size=w.heap.size+2:=by rw[eG];simp
 have k1:w2.heap[w.heap.size]?=some (.cells #[.int .i64 fV,.string aM,.string bu,.string cz,.bool cD,.string eJ,.bool cR,dom] 112 (0,0)):=by rw[eG];exact((ae aS _).alloc _).keep (aC _ _) id
 have k2:w2.heap[w.heap.size+1]?=some (.cells #[.string user,.string pass] 39 (0,0)):=by
  have h:=aC (w.alloc (.cells #[.int .i64 fV,.string aM,.string bu,.string cz,.bool cD,.string eJ,.bool cR,dom] 112)) (.cells #[.string user,.string pass] 39);rw[bP]at h;rw[eG];exact h
 have HC:=O (show∀U,Below w2.heap.size w2 U->(U.cell? ⟨w.heap.size,0,none⟩=some (.int .i64 fV)/\U.cell? ⟨w.heap.size,1,none⟩=some (.string aM)/\U.cell? ⟨w.heap.size,2,none⟩=some (.string bu)/\U.cell? ⟨w.heap.size,3,none⟩=some (.string cz)/\U.cell? ⟨w.heap.size,4,none⟩=some (.bool cD)/\U.cell? ⟨w.heap.size,5,none⟩=some (.string eJ)/\U.cell? ⟨w.heap.size,6,none⟩=some (.bool cR)/\U.cell? ⟨w.heap.size,7,none⟩=some dom)/\U.cell? ⟨w.heap.size+1,0,none⟩=some (.string user)/\U.cell? ⟨w.heap.size+1,1,none⟩=some (.string pass)from fun U hU=>by
  have j1:=(hU.block w.heap.size ab).trans k1;have j2:=(hU.block (w.heap.size+1) ab).trans k2;exact⟨by simp[World.cell?,j1],by simp[World.cell?,j2]⟩)
 have rU:=O (show∀U,Below w2.heap.size w2 U->Fr aS w U from fun U hU=>dE.trans (fx hU));obtain⟨b,hb⟩:∃b,b=w2.heap.size:=⟨_,rfl⟩;obtain⟨w4,qQ⟩:∃w4,w4=w2.alloc (.cells #[.pointer none,.slice none 0 0] 179):=⟨_,rfl⟩;have vQ:wG b b [] w4:=by rw[qQ,hb];exact Lib.IsBuilderF.of (Gw.new w2)
 have hB4:Below w2.heap.size w2 w4:=by rw[qQ];exact(Below.refl _ w2).alloc (ay _) _
 have hs4:w4.heap.size=b+1:=by rw[qQ,hb];simp
 have nP:=O eG;have OG:=O qQ;have hkk:(k:Int)<=4294967295:=ab;have JZ:¬(k:Int)<1:=ab;have Yu:¬(4294967295:Int)<(k:Int):=ab;obtain⟨⟨c0,c1,c2,c3,c4,c5,c6,c7⟩,d0,d1⟩:=HC.o w2 (Below.refl _ _);rw[eG]at c0 c1 c2 c3 c4 c5 c6 c7 d0 d1;clear qQ hx hq dE k1 k2;have vg:=O hb;have rB:=O (show b=w.heap.size+1+1 from ab);have HB:=O hb.symm;have Z6:=O vQ;have Wn:=O hB4
 have HNL:=O (show(bA (pF fV cD)).size<=12 by
  show(pF fV cD).length<=12;unfold pF;split<;>cases cD<;>decide)
 have FN:=O (show(bA (jK k)).size<=8 by show(jK k).length<=8;unfold jK;rw[nZ];exact ay _);clear vQ hB4;obtain⟨dg,hdg⟩:∃dg,dg=zU fV cz x:=⟨_,rfl⟩;have AZ:=O hdg;clear hdg;rcases HQ.o with hq0|hq0<;>rcases HS.o with hs0|hs0<;>subst hq0<;>subst hs0
 all_goals
  go_enter func50,ntmps50;go_wp2_with fail
  rw[<-nP.o, <-OG.o];rw[<-rB.o];refine(ew b b [] ⟨#[68,105,103,101,115,116,32]⟩ w4 Z6.o ag ab).mono ?_;rintro e w5⟨rfl,FT,xN,_⟩;have hs5:=xN.size;obtain⟨d,hd⟩:∃d,d=w5.heap.size:=⟨_,rfl⟩;obtain⟨w6,Ae⟩:∃w6,w6=w5.alloc (.cells #[.bool false] 4):=⟨_,rfl⟩;have C0:=O (show b<d from ab);have aeU:Below w2.heap.size w2 w6:=by rw[Ae];exact(Wn.o.trans (vg.o▸xN)).alloc (by have:=Wn.o.size;omega) _
  have S0:=O (show St b d 0 w2 [] w6 from⟨by rw[Ae];exact FT.fN ((ae aS w5).alloc _),by rw[Ae,hd];exact aC _ _,aeU,by rw[Ae];simp;omega,ay _,ag⟩);have RC:=O Ae;have Cq:=O hd;clear c0 c1 c2 c3 c4 c5 c6 c7 d0 d1 FT xN Ae;obtain⟨⟨c0,c1,c2,c3,c4,c5,c6,c7⟩,d0,d1⟩:=HC.o w6 S0.o.ru;rw[RC.o]at c0 c1 c2 c3 c4 c5 c6 c7 d0 d1;go_wp2_with fail
  rw[<-Cq.o, <-RC.o, <-rB.o];refine(lW b d 0 w2 _ _ P_ _ user true rfl vg.o C0.o ag ag ab S0.o).mono ?_;rintro e W1⟨rfl,s1⟩;obtain⟨L1,l1,s1⟩:=s1.named;have S1:=O s1;have E1:=O l1;clear c0 c1 c2 c3 c4 c5 c6 c7 d0 d1 s1 l1;obtain⟨⟨c0,c1,c2,c3,c4,c5,c6,c7⟩,d0,d1⟩:=HC.o W1 S1.o.ru;go_wp2_with fail
  rw[<-Cq.o, <-rB.o];refine(lW b d 1 w2 _ _ wB _ aM true rfl vg.o C0.o ag ag ab S1.o).mono ?_;rintro e W2⟨rfl,s2⟩;obtain⟨L2,l2,s2⟩:=s2.named;have S2:=O s2;have E2:=O l2;clear c0 c1 c2 c3 c4 c5 c6 c7 d0 d1 s2 l2;obtain⟨⟨c0,c1,c2,c3,c4,c5,c6,c7⟩,d0,d1⟩:=HC.o W2 S2.o.ru;go_wp2_with fail
  rw[<-Cq.o, <-rB.o];refine(lW b d 2 w2 _ _ wC _ bu true rfl vg.o C0.o ag ag ab S2.o).mono ?_;rintro e W3⟨rfl,s3⟩;obtain⟨L3,l3,s3⟩:=s3.named;have S3:=O s3;have E3:=O l3;clear c0 c1 c2 c3 c4 c5 c6 c7 d0 d1 s3 l3;obtain⟨⟨c0,c1,c2,c3,c4,c5,c6,c7⟩,d0,d1⟩:=HC.o W3 S3.o.ru;go_wp2_with fail
  rw[<-Cq.o, <-rB.o];refine(lW b d 3 w2 _ _ Zl _ target true rfl vg.o C0.o ag ag ab S3.o).mono ?_;rintro e W4⟨rfl,s4⟩;obtain⟨L4,l4,s4⟩:=s4.named;have S4:=O s4;have E4:=O l4;clear c0 c1 c2 c3 c4 c5 c6 c7 d0 d1 s4 l4;obtain⟨⟨c0,c1,c2,c3,c4,c5,c6,c7⟩,d0,d1⟩:=HC.o W4 S4.o.ru;go_wp2_with fail
  refine(aeT.o W4 (rU.o _ S4.o.ru)).mono ?_;rintro e wr⟨rfl,cP⟩;have S5:=O (S4.o.Ls cP vg.o);clear c0 c1 c2 c3 c4 c5 c6 c7 d0 d1 cP;obtain⟨⟨c0,c1,c2,c3,c4,c5,c6,c7⟩,d0,d1⟩:=HC.o wr S5.o.ru;go_wp2_with fail
  rw[<-Cq.o, <-rB.o];refine(lW b d 4 w2 _ _ P' _ (ox x) true rfl vg.o C0.o ag ag ab S5.o).mono ?_;rintro e W6⟨rfl,s6⟩;obtain⟨L6,l6,s6⟩:=s6.named;have S6:=O s6;have E6:=O l6;clear c0 c1 c2 c3 c4 c5 c6 c7 d0 d1 s6 l6;obtain⟨⟨c0,c1,c2,c3,c4,c5,c6,c7⟩,d0,d1⟩:=HC.o W6 S6.o.ru;go_wp2_with fail
  refine(NAME.o W6).mono ?_;rintro e wn⟨rfl,Fv⟩;have S7:=O (S6.o.Ls Fv vg.o);clear c0 c1 c2 c3 c4 c5 c6 c7 d0 d1 Fv;obtain⟨⟨c0,c1,c2,c3,c4,c5,c6,c7⟩,d0,d1⟩:=HC.o wn S7.o.ru;go_wp2_with fail
  rw[<-Cq.o, <-rB.o];refine(lW b d 5 w2 _ _ zy _ _ false rfl vg.o C0.o ag ag (by have:=HNL.o;omega) S7.o).mono ?_;rintro e W8⟨rfl,s8⟩;obtain⟨L8,l8,s8⟩:=s8.named;have S8:=O s8;have E8:=O l8;clear c0 c1 c2 c3 c4 c5 c6 c7 d0 d1 s8 l8;obtain⟨⟨c0,c1,c2,c3,c4,c5,c6,c7⟩,d0,d1⟩:=HC.o W8 S8.o.ru;go_wp2_with fail
  rw[<-Cq.o, <-rB.o];refine(lW b d 6 w2 _ _ KC _ _ false rfl vg.o C0.o ag ag ag S8.o).mono ?_;rintro e W9⟨rfl,s9⟩;obtain⟨L9,l9,s9⟩:=s9.named;have S9:=O s9;have E9:=O l9;clear c0 c1 c2 c3 c4 c5 c6 c7 d0 d1 s9 l9;obtain⟨⟨c0,c1,c2,c3,c4,c5,c6,c7⟩,d0,d1⟩:=HC.o W9 S9.o.ru;go_wp2_with fail
  refine(acE.o W9 (rU.o _ S9.o.ru)).mono ?_;rintro e wc⟨rfl,hfc⟩;have YE:=O (S9.o.Ls hfc vg.o);clear c0 c1 c2 c3 c4 c5 c6 c7 d0 d1 hfc;obtain⟨⟨c0,c1,c2,c3,c4,c5,c6,c7⟩,d0,d1⟩:=HC.o wc YE.o.ru;go_wp2_with fail
  rw[<-Cq.o, <-rB.o];refine(lW b d 7 w2 _ _ nNc _ (bA (jK k)) false rfl vg.o C0.o ag ag (by have:=FN.o;omega) YE.o).mono ?_;rintro e W11⟨rfl,s11⟩;obtain⟨L11,l11,s11⟩:=s11.named;have S11:=O s11;have E11:=O l11;clear c0 c1 c2 c3 c4 c5 c6 c7 d0 d1 s11 l11;obtain⟨⟨c0,c1,c2,c3,c4,c5,c6,c7⟩,d0,d1⟩:=HC.o W11 S11.o.ru;go_wp2_with fail
  rw[<-Cq.o, <-rB.o];refine(lW b d 8 w2 _ _ CY _ bS true rfl vg.o C0.o ag ag ab S11.o).mono ?_;rintro e W12⟨rfl,s12⟩;obtain⟨L12,l12,s12⟩:=s12.named;have S12:=O s12;have E12:=O l12;clear c0 c1 c2 c3 c4 c5 c6 c7 d0 d1 s12 l12;obtain⟨⟨c0,c1,c2,c3,c4,c5,c6,c7⟩,d0,d1⟩:=HC.o W12 S12.o.ru;by_cases ho:cz.data.toList.isEmpty=true
  ·have o1:cz.toList=[]:=by rw[aP];exact gK.1 ho
   have Hk:DP cz.data.toList=[]:=by unfold DP;rw[az ho]
   have o2:(cz.toList== [])=true:=by rw[o1];rfl
   have o3:cz.toList.isEmpty=true:=by rw[o1];rfl
   skip
   have EH:=pY S12.o.hd;rw[Cq.o]at EH;have Cj:=O (show dg.items=L12 by rw[AZ.o,E12.o,E11.o,E9.o,E8.o,E6.o,E4.o,E3.o,E2.o,E1.o,HX.o];exact(show wO _ _ _ _ _ _++(DN _ _++(U1 _ _ _++DP cz.data.toList))=_ by rw[Hk];rfl));cases pj:yF L12 with
   |true =>
    have C9:=O (show dg.fair=false by have hb:=jV dg;rw[Cj.o,pj]at hb;simpa using hb.symm);rw[pj]at EH;go_wp2;go_ret2;exact⟨rU.o _ S12.o.ru,Or.inl ⟨AZ.o▸C9.o,_,_,rfl⟩⟩
   |false =>
    rw[pj]at EH;have sI:=O (jW (d:=dg) (by rw[Cj.o];exact pj));have Wo:=O (jX sI.o);go_wp2_with fail
    rw[<-rB.o];refine(Builder_String_any_k b b (wN L12) W12 (by have h:=S12.o.hb;exact h) (S12.o.sz)).mono ?_;rintro e wz⟨rfl,_,Nj,_⟩;go_wp2;go_ret2;refine⟨rU.o _ ((S12.o.ru).trans (vg.o▸Nj)),Or.inr ⟨ag,by rw[HX.o],by rw[HX.o];exact lZ,by rw[HX.o];exact sH,AZ.o▸sI.o,?_⟩⟩;rw[<-AZ.o, <-Wo.o,Cj.o];rfl
  ·have Ft:cz.data.toList.isEmpty=false:=by simpa using ho
   have Hk:DP cz.data.toList=[(mA,cz.data.toList,true)]:=by unfold DP;rw[aq ho]
   have o1:¬cz.toList=[]:=by rw[aP];intro h;rw[h]at Ft;cases Ft
   have o2:(cz.toList== [])=false:=aO.2 o1;have o3:cz.toList.isEmpty=false:=by rw[aP];exact Ft
   go_wp2_with fail
   rw[<-Cq.o, <-rB.o];refine(lW b d 9 w2 _ _ mA _ cz true rfl vg.o C0.o ag ag ab S12.o).mono ?_;rintro e W13⟨rfl,s13⟩;obtain⟨L13,l13,s13⟩:=s13.named;have S13:=O s13;have E13:=O l13;clear c0 c1 c2 c3 c4 c5 c6 c7 d0 d1 s13 l13;obtain⟨⟨c0,c1,c2,c3,c4,c5,c6,c7⟩,d0,d1⟩:=HC.o W13 S13.o.ru;have EH:=pY S13.o.hd;rw[Cq.o]at EH
   have Cj:=O (show dg.items=L13 by rw[AZ.o,E13.o,E12.o,E11.o,E9.o,E8.o,E6.o,E4.o,E3.o,E2.o,E1.o,HX.o];exact(show wO _ _ _ _ _ _++(DN _ _++(U1 _ _ _++DP cz.data.toList))=_ by rw[Hk];rfl));cases pj:yF L13 with
   |true =>
    have C9:=O (show dg.fair=false by have hb:=jV dg;rw[Cj.o,pj]at hb;simpa using hb.symm);rw[pj]at EH;go_wp2;go_ret2;exact⟨rU.o _ S13.o.ru,Or.inl ⟨AZ.o▸C9.o,_,_,rfl⟩⟩
   |false =>
    rw[pj]at EH;have sI:=O (jW (d:=dg) (by rw[Cj.o];exact pj));have Wo:=O (jX sI.o);go_wp2_with fail
    rw[<-rB.o];refine(Builder_String_any_k b b (wN L13) W13 (by have h:=S13.o.hb;exact h) (S13.o.sz)).mono ?_;rintro e wz⟨rfl,_,Nj,_⟩;go_wp2;go_ret2;refine⟨rU.o _ ((S13.o.ru).trans (vg.o▸Nj)),Or.inr ⟨ag,by rw[HX.o],by rw[HX.o];exact lZ,by rw[HX.o];exact sH,AZ.o▸sI.o,?_⟩⟩;rw[<-AZ.o, <-Wo.o,Cj.o];rfl
def C_(fV:Int)(cz:aj)(x:n9)(n:Int):Prop:=((fV=2\/fV=3)/\(x.eJ.data.toList=[]\/x.eJ.data.toList=mz\/x.eJ.data.toList=qz))/\(1<=n/\n<=4294967295)/\(zU fV cz x).fair=true
def pk(fV:Int)(cz:aj)(x:n9)(n:Int)(w:World)(e:Ending)(w':World):Prop :=
 Fr aS w w'/\((¬C_ fV cz x n/\∃t v,e=.returned (.tuple #[.string ⟨#[]⟩,.iface t v]))\/(C_ fV cz x n/\e=.returned (.tuple #[.string (bA (zU fV cz x).text),.nilIface])))
theorem Sw(fV:Int)(aM bu cz eJ user pass method target body bS:aj)(cD cR:Bool)(dom:Value)(n:Int)(w:World)(ef:dom.oneCell'=true)
  (x1:aM.size<=5000)(x2:bu.size<=5000)(x3:cz.size<=5000)(x4:user.size<=5000)(x5:pass.size<=5000)(x6:method.size<=5000)(x7:target.size<=5000)(x8:body.size<=5000)(x9:bS.size<=5000)
  (NX:ow w 9 .u8 Rz)(hh:tQ fV w) :
  aB 50 #[.agg #[.int .i64 fV,.string aM,.string bu,.string cz,.bool cD,.string eJ,.bool cR,dom],.agg #[.string user,.string pass],.string method,.string target,.string body,.string bS,.int .i64 n] w (pk fV cz ⟨decide (fV=3),cD,aM,bu,eJ,user,pass,method,target,body,bS,n.toNat⟩ n w):=by
 have yZ:∀l:Bs,eJ.toList=l->eJ=⟨l.toArray⟩:=fun l h=>Go.WideShapes.bytes_inj (by rw[<-aP,h]);by_cases hsq:(fV=2\/fV=3)/\(eJ.toList=[]\/eJ.toList=[97,117,116,104]\/eJ.toList=[97,117,116,104,45,105,110,116])
 ·obtain⟨hs,hq⟩:=hsq;by_cases hn:1<=n/\n<=4294967295
  ·obtain⟨J5,C7⟩:=hn;obtain⟨k,rfl⟩:∃k:Nat,n=(k:Int):=⟨n.toNat,ab⟩;have key:aB 50 #[.agg #[.int .i64 fV,.string aM,.string bu,.string cz,.bool cD,.string eJ,.bool cR,dom],.agg #[.string user,.string pass],.string method,.string target,.string body,.string bS,.int .i64 (k:Int)] w (IW fV cz ⟨decide (fV=3),cD,aM,bu,eJ,user,pass,method,target,body,bS,k⟩ k w):=by
    rcases hq with hq|hq|hq
    ·exact Wm fV aM bu cz eJ user pass method target body bS cD cR dom k w ef (yZ _ hq) hs ab ab x1 x2 x3 x4 x5 x6 x7 x8 x9 NX hh
    ·exact Mf fV aM bu cz eJ user pass method target body bS cD cR dom k w ef (Or.inl (yZ _ hq)) hs ab ab x1 x2 x3 x4 x5 x6 x7 x8 x9 NX hh
    ·exact Mf fV aM bu cz eJ user pass method target body bS cD cR dom k w ef (Or.inr (yZ _ hq)) hs ab ab x1 x2 x3 x4 x5 x6 x7 x8 x9 NX hh
   refine key.mono ?_;rintro e w'⟨hf,hm⟩;refine⟨hf,?_⟩;rcases hm with ⟨hm,hr⟩|⟨h1,h2,h3,h4,h5,h6⟩
   ·exact Or.inl ⟨fun hg=>(by have hg:=hg.2.2;rw[Int.toNat_natCast,hm]at hg;cases hg),hr⟩
   ·refine Or.inr ⟨⟨⟨h1,?_⟩,⟨ab,ab⟩,h5⟩,h6⟩;show eJ.data.toList=[]\/eJ.data.toList=mz\/eJ.data.toList=qz;rw[<-aP];exact hq
  ·have DI:n<1\/4294967295<n:=ab;have hng:∀x,¬C_ fV cz x n:=fun x h=>hn h.2.1;clear hn;have HG:∀t v (w':World),Fr aS w w'->pk fV cz ⟨decide (fV=3),cD,aM,bu,eJ,user,pass,method,target,body,bS,n.toNat⟩ n w (.returned (.tuple #[.string ⟨#[]⟩,.iface t v])) w':=fun t v w' hf=>⟨hf,Or.inl ⟨hng _,t,v,rfl⟩⟩;have HGG:=O HG;clear HG hng
   generalize pk fV cz ⟨decide (fV=3),cD,aM,bu,eJ,user,pass,method,target,body,bS,n.toNat⟩ n w=Q at *
   have dE:Fr aS w ((w.alloc (.cells #[.int .i64 fV,.string aM,.string bu,.string cz,.bool cD,.string eJ,.bool cR,dom] 112)).alloc (.cells #[.string user,.string pass] 39)):=((ae aS w).alloc _).alloc _;have fU:=O dE;clear dE;rcases DI with hn|hn
   ·rcases hs with rfl|rfl<;>rcases hq with hq|hq|hq<;>obtain rfl:=yZ _ hq<;>clear hq <;>
     (go_enter func50,ntmps50
      go_wp2
      (first|go_ret2|skip)
      exact HGG.o _ _ _ fU.o)
   ·have Qc:¬n<1:=ab;rcases hs with rfl|rfl<;>rcases hq with hq|hq|hq<;>obtain rfl:=yZ _ hq<;>clear hq <;>
     (go_enter func50,ntmps50
      go_wp2
      (first|go_ret2|skip)
      exact HGG.o _ _ _ fU.o)
 ·have hng:∀x:n9,x.eJ=eJ->¬C_ fV cz x n:=fun x hx h=>hsq ⟨h.1.1,by rw[<-hx,aP];exact h.1.2⟩;have HG:∀t v (w':World),Fr aS w w'->pk fV cz ⟨decide (fV=3),cD,aM,bu,eJ,user,pass,method,target,body,bS,n.toNat⟩ n w (.returned (.tuple #[.string ⟨#[]⟩,.iface t v])) w':=fun t v w' hf=>⟨hf,Or.inl ⟨hng _ rfl,t,v,rfl⟩⟩;have HGG:=O HG;clear HG hng
  generalize pk fV cz ⟨decide (fV=3),cD,aM,bu,eJ,user,pass,method,target,body,bS,n.toNat⟩ n w=Q at *
  have dE:Fr aS w ((w.alloc (.cells #[.int .i64 fV,.string aM,.string bu,.string cz,.bool cD,.string eJ,.bool cR,dom] 112)).alloc (.cells #[.string user,.string pass] 39)):=((ae aS w).alloc _).alloc _;have fU:=O dE;clear dE;by_cases hs:fV=2\/fV=3
  ·have hq:¬(eJ.toList=[]\/eJ.toList=[97,117,116,104]\/eJ.toList=[97,117,116,104,45,105,110,116]):=fun h=>hsq ⟨hs,h⟩;have q1:¬eJ.toList=[]:=fun h=>hq (Or.inl h);have q2:¬eJ.toList=[97,117,116,104]:=fun h=>hq (Or.inr (Or.inl h));have q3:¬eJ.toList=[97,117,116,104,45,105,110,116]:=fun h=>hq (Or.inr (Or.inr h));have q4:(eJ.toList== [])=false:=aO.2 q1
   have q5:(eJ.toList== [97,117,116,104])=false:=aO.2 q2;have q6:(eJ.toList== [97,117,116,104,45,105,110,116])=false:=aO.2 q3;have q7:eJ.toList.isEmpty=false:=by cases hz:eJ.toList with|nil=>exact absurd hz q1|cons _ _=>rfl
   clear hsq hq yZ;rcases hs with rfl|rfl
   ·go_enter func50,ntmps50;go_wp2
    (first|go_ret2|skip)
    exact HGG.o _ _ _ fU.o
   ·go_enter func50,ntmps50;go_wp2
    (first|go_ret2|skip)
    exact HGG.o _ _ _ fU.o
  ·have s2:¬fV=2:=fun h=>hs (Or.inl h);have s3:¬fV=3:=fun h=>hs (Or.inr h);clear hs hsq yZ;go_enter func50,ntmps50;go_wp2
   (first|go_ret2|skip)
   exact HGG.o _ _ _ fU.o
