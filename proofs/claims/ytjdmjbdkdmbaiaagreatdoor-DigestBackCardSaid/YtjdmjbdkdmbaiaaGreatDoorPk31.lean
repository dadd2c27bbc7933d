/- DigestE, DigestA. -/
import Derived.Test.YtjdmjbdkdmbaiaaGreatDoorPk28
set_option maxRecDepth 100000
set_option maxHeartbeats 16000000
set_option linter.unusedSimpArgs false
namespace Go.Proofs.YtjdmjbdkdmbaiaaGreatDoor
open Go.RowKit
theorem PG(cH:Int)(ar aE aK bU user pass method target body aB:ByteArray)(aL aX:Bool)(dom:Value)(k:Nat)(w:World)(bG:dom.oneCell'=true)
  (hq:bU=⟨#[]⟩)(hs:cH=2\/cH=3)(gZ:1<=k)(ng:k<=4294967295)
  (x1:ar.size<=5000)(x2:aE.size<=5000)(x3:aK.size<=5000)(x4:user.size<=5000)(x5:pass.size<=5000)(x6:method.size<=5000)(x7:target.size<=5000)(x8:body.size<=5000)(x9:aB.size<=5000)
  (Gs:iu w 9 .u8 Gr)(hh:ni cH w) :
  Calls Tryz.prog 44 #[.agg #[.int .i64 cH,.string ar,.string aE,.string aK,.bool aL,.string bU,.bool aX,dom],.agg #[.string user,.string pass],.string method,.string target,.string body,.string aB,.int .i64 (k:Int)] w (BX cH aK ⟨decide (cH=3),aL,ar,aE,bU,user,pass,method,target,body,aB,k⟩ k w):=by
 obtain⟨x,hx⟩:∃x:je,x=⟨decide (cH=3),aL,ar,aE,bU,user,pass,method,target,body,aB,k⟩:=⟨_,rfl⟩;have xq:bU.size<=5000:=by rw[hq];decide
 have kz:x.Small:=by rw[hx];exact⟨by show ar.size<=_;omega,by show aE.size<=_;omega,by show bU.size<=_;omega,by show user.size<=_;omega,by show pass.size<=_;omega,by show method.size<=_;omega,by show target.size<=_;omega,by show body.size<=_;omega,by show aB.size<=_;omega,by show k<_;omega⟩
 rw[<-hx];have aal:=O (show∀U,Fr ay w U->Calls Tryz.prog 46 #[.agg #[.int .i64 cH,.string ar,.string aE,.string aK,.bool aL,.string bU,.bool aX,dom],.agg #[.string user,.string pass],.string method,.string target,.string body,.string aB,.int .i64 (k:Int)] U fun e w'=>e=.returned (.string (js x))/\Fr ay U w' from fun U hU=>by
  have:=tO ⟨cH,ar,aE,aK,aL,bU,aX,dom⟩ x U kz (by rw[hx]) (by rw[hx]) (by rw[hx]) (by rw[hx]) (by rw[hx]) bG (Gs.fr hU) (hh.fr hU);rw[hx]at this ⊢;exact this)
 have Xt:=O (show∀U,Fr ay w U->Calls Tryz.prog 47 #[.int .i64 (k:Int)] U fun e w'=>e=.returned (.string (bA (ez k)))/\Fr ay U w' from fun U hU=>lK k U (by omega) (Gs.fr hU));have NAME:=O (fun U=>DV cH ar aE aK bU aL aX dom U);have hrs:=yd x;have HX:=O hx;have HQ:=O hq;have HS:=O hs;clear Gs hh kz
 obtain⟨w2,bK⟩:∃w2,w2=(w.alloc (.cells #[.int .i64 cH,.string ar,.string aE,.string aK,.bool aL,.string bU,.bool aX,dom] 47)).alloc (.cells #[.string user,.string pass] 31):=⟨_,rfl⟩;have bq:Fr ay w w2:=by rw[bK];exact((Fr.refl ay w).alloc _).alloc _
 have qV:w2.heap.size=w.heap.size+2:=by rw[bK];simp
 have k1:w2.heap[w.heap.size]?=some (.cells #[.int .i64 cH,.string ar,.string aE,.string aK,.bool aL,.string bU,.bool aX,dom] 47 (0,0)):=by rw[bK];exact((Fr.refl ay _).alloc _).keep (af _ _) (fun h=>h)
 have k2:w2.heap[w.heap.size+1]?=some (.cells #[.string user,.string pass] 31 (0,0)):=by
  have h:=af (w.alloc (.cells #[.int .i64 cH,.string ar,.string aE,.string aK,.bool aL,.string bU,.bool aX,dom] 47)) (.cells #[.string user,.string pass] 31);rw[World.size_alloc]at h;rw[bK];exact h
 have HC:=O (show∀U,Below w2.heap.size w2 U->(U.cell? ⟨w.heap.size,0,none⟩=some (.int .i64 cH)/\U.cell? ⟨w.heap.size,1,none⟩=some (.string ar)/\U.cell? ⟨w.heap.size,2,none⟩=some (.string aE)/\U.cell? ⟨w.heap.size,3,none⟩=some (.string aK)/\U.cell? ⟨w.heap.size,4,none⟩=some (.bool aL)/\U.cell? ⟨w.heap.size,5,none⟩=some (.string bU)/\U.cell? ⟨w.heap.size,6,none⟩=some (.bool aX)/\U.cell? ⟨w.heap.size,7,none⟩=some dom)/\U.cell? ⟨w.heap.size+1,0,none⟩=some (.string user)/\U.cell? ⟨w.heap.size+1,1,none⟩=some (.string pass)from fun U hU=>by
  have j1:=(hU.block w.heap.size (by omega)).trans k1;have j2:=(hU.block (w.heap.size+1) (by omega)).trans k2;exact⟨by simp[World.cell?,j1],by simp[World.cell?,j2]⟩)
 have jF:=O (show∀U,Below w2.heap.size w2 U->Fr ay w U from fun U hU=>bq.trans (Fr.gW hU));obtain⟨b,hb⟩:∃b,b=w2.heap.size:=⟨_,rfl⟩;obtain⟨w4,cY⟩:∃w4,w4=w2.alloc (.cells #[.pointer none,.slice none 0 0] 161):=⟨_,rfl⟩;have ph:pM b b [] w4:=by rw[cY,hb];exact Lib.IsBuilderF.of (Ah.new w2)
 have hB4:Below w2.heap.size w2 w4:=by rw[cY];exact(Below.refl _ w2).alloc (Nat.le_refl _) _
 have WY:w4.heap.size=b+1:=by rw[cY,hb];simp
 have ka:=O bK;have Tc:=O cY;have hkk:(k:Int)<=4294967295:=by omega
 have SL:¬(k:Int)<1:=by omega
 have SY:¬(4294967295:Int)<(k:Int):=by omega
 obtain⟨⟨c0,c1,c2,c3,c4,c5,c6,c7⟩,d0,d1⟩:=HC.out w2 (Below.refl _ _);rw[bK]at c0 c1 c2 c3 c4 c5 c6 c7 d0 d1;clear cY hx hq bq k1 k2;have pA:=O hb;have lH:=O (show b=w.heap.size+1+1 by omega);have HB:=O hb.symm;have Xg:=O ph;have PH:=O hB4;have HNL:=O (show(bA (kd cH aL)).size<=12 by
  show(kd cH aL).length<=12;unfold kd;split<;>cases aL<;>decide)
 have JC:=O (show(bA (ez k)).size<=8 by show(ez k).length<=8;unfold ez;rw[jd];exact Nat.le_refl _);clear ph hB4;obtain⟨dg,Ww⟩:∃dg,dg=tP cH aK x:=⟨_,rfl⟩;have uG:=O Ww;clear Ww;obtain rfl:=HQ.out;rcases HS.out with zg|zg<;>subst zg
 all_goals
  go_enter Tryz.func44,Tryz.ntmps44;go_wp2_with fail
  rw[<-ka.out, <-Tc.out];rw[<-lH.out];refine(bE b b [] ⟨#[68,105,103,101,115,116,32]⟩ w4 Xg.out (by decide) (by omega)).mono ?_;rintro e w5⟨rfl,zD,u0,_⟩;have hs5:=u0.size;obtain⟨d,hd⟩:∃d,d=w5.heap.size:=⟨_,rfl⟩;obtain⟨w6,tY⟩:∃w6,w6=w5.alloc (.cells #[.bool false] 4):=⟨_,rfl⟩;have xf:=O (show b<d by omega)
  have aam:Below w2.heap.size w2 w6:=by rw[tY];exact(PH.out.trans (pA.out▸u0)).alloc (by have:=PH.out.size;omega) _
  have S0:=O (show St b d 0 w2 [] w6 from⟨by rw[tY];exact zD.bu ((Fr.refl ay w5).alloc _),by rw[tY,hd];exact af _ _,aam,by rw[tY];simp;omega,Nat.le_refl _,by decide⟩);have D4:=O tY;have wC:=O hd;clear c0 c1 c2 c3 c4 c5 c6 c7 d0 d1 zD u0 tY;obtain⟨⟨c0,c1,c2,c3,c4,c5,c6,c7⟩,d0,d1⟩:=HC.out w6 S0.out.jE;rw[D4.out]at c0 c1 c2 c3 c4 c5 c6 c7 d0 d1;go_wp2_with fail
  rw[<-wC.out, <-D4.out, <-lH.out];refine(gq b d 0 w2 _ _ I_ _ user true rfl pA.out xf.out (by decide) (by decide) (by omega) S0.out).mono ?_;rintro e W1⟨rfl,s1⟩;obtain⟨L1,l1,s1⟩:=s1.named;have S1:=O s1;have E1:=O l1;clear c0 c1 c2 c3 c4 c5 c6 c7 d0 d1 s1 l1;obtain⟨⟨c0,c1,c2,c3,c4,c5,c6,c7⟩,d0,d1⟩:=HC.out W1 S1.out.jE;go_wp2_with fail
  rw[<-wC.out, <-lH.out];refine(gq b d 1 w2 _ _ pH _ ar true rfl pA.out xf.out (by decide) (by decide) (by omega) S1.out).mono ?_;rintro e W2⟨rfl,s2⟩;obtain⟨L2,l2,s2⟩:=s2.named;have S2:=O s2;have E2:=O l2;clear c0 c1 c2 c3 c4 c5 c6 c7 d0 d1 s2 l2;obtain⟨⟨c0,c1,c2,c3,c4,c5,c6,c7⟩,d0,d1⟩:=HC.out W2 S2.out.jE;go_wp2_with fail
  rw[<-wC.out, <-lH.out];refine(gq b d 2 w2 _ _ pI _ aE true rfl pA.out xf.out (by decide) (by decide) (by omega) S2.out).mono ?_;rintro e W3⟨rfl,s3⟩;obtain⟨L3,l3,s3⟩:=s3.named;have S3:=O s3;have E3:=O l3;clear c0 c1 c2 c3 c4 c5 c6 c7 d0 d1 s3 l3;obtain⟨⟨c0,c1,c2,c3,c4,c5,c6,c7⟩,d0,d1⟩:=HC.out W3 S3.out.jE;go_wp2_with fail
  rw[<-wC.out, <-lH.out];refine(gq b d 3 w2 _ _ TS _ target true rfl pA.out xf.out (by decide) (by decide) (by omega) S3.out).mono ?_;rintro e W4⟨rfl,s4⟩;obtain⟨L4,l4,s4⟩:=s4.named;have S4:=O s4;have E4:=O l4;clear c0 c1 c2 c3 c4 c5 c6 c7 d0 d1 s4 l4;obtain⟨⟨c0,c1,c2,c3,c4,c5,c6,c7⟩,d0,d1⟩:=HC.out W4 S4.out.jE;go_wp2_with fail
  refine(aal.out W4 (jF.out _ S4.out.jE)).mono ?_;rintro e wr⟨rfl,aW⟩;have S5:=O (S4.out.D6 aW pA.out);clear c0 c1 c2 c3 c4 c5 c6 c7 d0 d1 aW;obtain⟨⟨c0,c1,c2,c3,c4,c5,c6,c7⟩,d0,d1⟩:=HC.out wr S5.out.jE;go_wp2_with fail
  rw[<-wC.out, <-lH.out];refine(gq b d 4 w2 _ _ I' _ (js x) true rfl pA.out xf.out (by decide) (by decide) (by omega) S5.out).mono ?_;rintro e W6⟨rfl,s6⟩;obtain⟨L6,l6,s6⟩:=s6.named;have S6:=O s6;have E6:=O l6;clear c0 c1 c2 c3 c4 c5 c6 c7 d0 d1 s6 l6;obtain⟨⟨c0,c1,c2,c3,c4,c5,c6,c7⟩,d0,d1⟩:=HC.out W6 S6.out.jE;go_wp2_with fail
  refine(NAME.out W6).mono ?_;rintro e wn⟨rfl,vY⟩;have S7:=O (S6.out.D6 vY pA.out);clear c0 c1 c2 c3 c4 c5 c6 c7 d0 d1 vY;obtain⟨⟨c0,c1,c2,c3,c4,c5,c6,c7⟩,d0,d1⟩:=HC.out wn S7.out.jE;go_wp2_with fail
  rw[<-wC.out, <-lH.out];refine(gq b d 5 w2 _ _ sY _ _ false rfl pA.out xf.out (by decide) (by decide) (by have:=HNL.out;omega) S7.out).mono ?_;rintro e W8⟨rfl,s8⟩;obtain⟨L8,l8,s8⟩:=s8.named;have S8:=O s8;have E8:=O l8;clear c0 c1 c2 c3 c4 c5 c6 c7 d0 d1 s8 l8;obtain⟨⟨c0,c1,c2,c3,c4,c5,c6,c7⟩,d0,d1⟩:=HC.out W8 S8.out.jE;cases aL with
  |false =>
   by_cases ho:aK.data.toList.isEmpty=true
   ·have o1:aK.toList=[]:=by rw[ByteArray.toList_eq];exact List.isEmpty_iff.1 ho
    have PI:xS aK.data.toList=[]:=by unfold xS;rw[if_pos ho]
    have o2:(aK.toList== [])=true:=by rw[o1];rfl
    have o3:aK.toList.isEmpty=true:=by rw[o1];rfl
    skip
    have yO:=kt S8.out.hd;rw[wC.out]at yO;have wa:=O (show dg.items=L8 by rw[uG.out,E8.out,E6.out,E4.out,E3.out,E2.out,E1.out,HX.out];exact(show pU _ _ _ _ _ _++(xR _ _++(N4 _ _ _++xS aK.data.toList))=_ by rw[PI];rfl));cases jW:rZ L8 with
    |true =>
     have xi:=O (show dg.fair=false by have hb:=cE.qG dg;rw[wa.out,jW]at hb;simpa using hb.symm);rw[jW]at yO;go_wp2;go_ret2;exact⟨jF.out _ S8.out.jE,Or.inl ⟨uG.out▸xi.out,_,_,rfl⟩⟩
    |false =>
     rw[jW]at yO;have nj:=O (cE.qF (d:=dg) (by rw[wa.out];exact jW));have PJ:=O (cE.qH nj.out);go_wp2_with fail
     rw[<-lH.out];refine(Tryz.Builder_String_any_k b b (pT L8) W8 (by have h:=S8.out.hb;exact h) (S8.out.sz)).mono ?_;rintro e wz⟨rfl,_,FP,_⟩;go_wp2;go_ret2;refine⟨jF.out _ ((S8.out.jE).trans (pA.out▸FP)),Or.inr ⟨by decide,by rw[HX.out],by rw[HX.out];exact gZ,by rw[HX.out];exact ng,uG.out▸nj.out,?_⟩⟩;rw[<-uG.out, <-PJ.out,wa.out];rfl
   ·have FJ:aK.data.toList.isEmpty=false:=by simpa using ho
    have PI:xS aK.data.toList=[(gP,aK.data.toList,true)]:=by unfold xS;rw[if_neg ho]
    have o1:¬aK.toList=[]:=by rw[ByteArray.toList_eq];intro h;rw[h]at FJ;cases FJ
    have o2:(aK.toList== [])=false:=beq_eq_false_iff_ne.2 o1;have o3:aK.toList.isEmpty=false:=by rw[ByteArray.toList_eq];exact FJ
    go_wp2_with fail
    rw[<-wC.out, <-lH.out];refine(gq b d 6 w2 _ _ gP _ aK true rfl pA.out xf.out (by decide) (by decide) (by omega) S8.out).mono ?_;rintro e W9⟨rfl,s9⟩;obtain⟨L9,l9,s9⟩:=s9.named;have S9:=O s9;have E9:=O l9;clear c0 c1 c2 c3 c4 c5 c6 c7 d0 d1 s9 l9;obtain⟨⟨c0,c1,c2,c3,c4,c5,c6,c7⟩,d0,d1⟩:=HC.out W9 S9.out.jE;have yO:=kt S9.out.hd;rw[wC.out]at yO
    have wa:=O (show dg.items=L9 by rw[uG.out,E9.out,E8.out,E6.out,E4.out,E3.out,E2.out,E1.out,HX.out];exact(show pU _ _ _ _ _ _++(xR _ _++(N4 _ _ _++xS aK.data.toList))=_ by rw[PI];rfl));cases jW:rZ L9 with
    |true =>
     have xi:=O (show dg.fair=false by have hb:=cE.qG dg;rw[wa.out,jW]at hb;simpa using hb.symm);rw[jW]at yO;go_wp2;go_ret2;exact⟨jF.out _ S9.out.jE,Or.inl ⟨uG.out▸xi.out,_,_,rfl⟩⟩
    |false =>
     rw[jW]at yO;have nj:=O (cE.qF (d:=dg) (by rw[wa.out];exact jW));have PJ:=O (cE.qH nj.out);go_wp2_with fail
     rw[<-lH.out];refine(Tryz.Builder_String_any_k b b (pT L9) W9 (by have h:=S9.out.hb;exact h) (S9.out.sz)).mono ?_;rintro e wz⟨rfl,_,FP,_⟩;go_wp2;go_ret2;refine⟨jF.out _ ((S9.out.jE).trans (pA.out▸FP)),Or.inr ⟨by decide,by rw[HX.out],by rw[HX.out];exact gZ,by rw[HX.out];exact ng,uG.out▸nj.out,?_⟩⟩;rw[<-uG.out, <-PJ.out,wa.out];rfl
  |true =>
   go_wp2_with fail
   rw[<-wC.out, <-lH.out];refine(gq b d 6 w2 _ _ xd _ aB true rfl pA.out xf.out (by decide) (by decide) (by omega) S8.out).mono ?_;rintro e W10⟨rfl,s10⟩;obtain⟨L10,l10,s10⟩:=s10.named;have Td:=O s10;have E10:=O l10;clear c0 c1 c2 c3 c4 c5 c6 c7 d0 d1 s10 l10;obtain⟨⟨c0,c1,c2,c3,c4,c5,c6,c7⟩,d0,d1⟩:=HC.out W10 Td.out.jE;by_cases ho:aK.data.toList.isEmpty=true
   ·have o1:aK.toList=[]:=by rw[ByteArray.toList_eq];exact List.isEmpty_iff.1 ho
    have PI:xS aK.data.toList=[]:=by unfold xS;rw[if_pos ho]
    have o2:(aK.toList== [])=true:=by rw[o1];rfl
    have o3:aK.toList.isEmpty=true:=by rw[o1];rfl
    skip
    have yO:=kt Td.out.hd;rw[wC.out]at yO;have wa:=O (show dg.items=L10 by rw[uG.out,E10.out,E8.out,E6.out,E4.out,E3.out,E2.out,E1.out,HX.out];exact(show pU _ _ _ _ _ _++(xR _ _++(N4 _ _ _++xS aK.data.toList))=_ by rw[PI];rfl));cases jW:rZ L10 with
    |true =>
     have xi:=O (show dg.fair=false by have hb:=cE.qG dg;rw[wa.out,jW]at hb;simpa using hb.symm);rw[jW]at yO;go_wp2;go_ret2;exact⟨jF.out _ Td.out.jE,Or.inl ⟨uG.out▸xi.out,_,_,rfl⟩⟩
    |false =>
     rw[jW]at yO;have nj:=O (cE.qF (d:=dg) (by rw[wa.out];exact jW));have PJ:=O (cE.qH nj.out);go_wp2_with fail
     rw[<-lH.out];refine(Tryz.Builder_String_any_k b b (pT L10) W10 (by have h:=Td.out.hb;exact h) (Td.out.sz)).mono ?_;rintro e wz⟨rfl,_,FP,_⟩;go_wp2;go_ret2;refine⟨jF.out _ ((Td.out.jE).trans (pA.out▸FP)),Or.inr ⟨by decide,by rw[HX.out],by rw[HX.out];exact gZ,by rw[HX.out];exact ng,uG.out▸nj.out,?_⟩⟩;rw[<-uG.out, <-PJ.out,wa.out];rfl
   ·have FJ:aK.data.toList.isEmpty=false:=by simpa using ho
    have PI:xS aK.data.toList=[(gP,aK.data.toList,true)]:=by unfold xS;rw[if_neg ho]
    have o1:¬aK.toList=[]:=by rw[ByteArray.toList_eq];intro h;rw[h]at FJ;cases FJ
    have o2:(aK.toList== [])=false:=beq_eq_false_iff_ne.2 o1;have o3:aK.toList.isEmpty=false:=by rw[ByteArray.toList_eq];exact FJ
    go_wp2_with fail
    rw[<-wC.out, <-lH.out];refine(gq b d 7 w2 _ _ gP _ aK true rfl pA.out xf.out (by decide) (by decide) (by omega) Td.out).mono ?_;rintro e PK⟨rfl,Ve⟩;obtain⟨L11,l11,Ve⟩:=Ve.named;have Vf:=O Ve;have E11:=O l11;clear c0 c1 c2 c3 c4 c5 c6 c7 d0 d1 Ve l11;obtain⟨⟨c0,c1,c2,c3,c4,c5,c6,c7⟩,d0,d1⟩:=HC.out PK Vf.out.jE;have yO:=kt Vf.out.hd;rw[wC.out]at yO
    have wa:=O (show dg.items=L11 by rw[uG.out,E11.out,E10.out,E8.out,E6.out,E4.out,E3.out,E2.out,E1.out,HX.out];exact(show pU _ _ _ _ _ _++(xR _ _++(N4 _ _ _++xS aK.data.toList))=_ by rw[PI];rfl));cases jW:rZ L11 with
    |true =>
     have xi:=O (show dg.fair=false by have hb:=cE.qG dg;rw[wa.out,jW]at hb;simpa using hb.symm);rw[jW]at yO;go_wp2;go_ret2;exact⟨jF.out _ Vf.out.jE,Or.inl ⟨uG.out▸xi.out,_,_,rfl⟩⟩
    |false =>
     rw[jW]at yO;have nj:=O (cE.qF (d:=dg) (by rw[wa.out];exact jW));have PJ:=O (cE.qH nj.out);go_wp2_with fail
     rw[<-lH.out];refine(Tryz.Builder_String_any_k b b (pT L11) PK (by have h:=Vf.out.hb;exact h) (Vf.out.sz)).mono ?_;rintro e wz⟨rfl,_,FP,_⟩;go_wp2;go_ret2;refine⟨jF.out _ ((Vf.out.jE).trans (pA.out▸FP)),Or.inr ⟨by decide,by rw[HX.out],by rw[HX.out];exact gZ,by rw[HX.out];exact ng,uG.out▸nj.out,?_⟩⟩;rw[<-uG.out, <-PJ.out,wa.out];rfl
theorem EO(cH:Int)(ar aE aK bU user pass method target body aB:ByteArray)(aL aX:Bool)(dom:Value)(k:Nat)(w:World)(bG:dom.oneCell'=true)
  (hq:bU=⟨#[97,117,116,104]⟩\/bU=⟨#[97,117,116,104,45,105,110,116]⟩)(hs:cH=2\/cH=3)(gZ:1<=k)(ng:k<=4294967295)
  (x1:ar.size<=5000)(x2:aE.size<=5000)(x3:aK.size<=5000)(x4:user.size<=5000)(x5:pass.size<=5000)(x6:method.size<=5000)(x7:target.size<=5000)(x8:body.size<=5000)(x9:aB.size<=5000)
  (Gs:iu w 9 .u8 Gr)(hh:ni cH w) :
  Calls Tryz.prog 44 #[.agg #[.int .i64 cH,.string ar,.string aE,.string aK,.bool aL,.string bU,.bool aX,dom],.agg #[.string user,.string pass],.string method,.string target,.string body,.string aB,.int .i64 (k:Int)] w (BX cH aK ⟨decide (cH=3),aL,ar,aE,bU,user,pass,method,target,body,aB,k⟩ k w):=by
 obtain⟨x,hx⟩:∃x:je,x=⟨decide (cH=3),aL,ar,aE,bU,user,pass,method,target,body,aB,k⟩:=⟨_,rfl⟩;have xq:bU.size<=5000:=by rcases hq with h|h<;>rw[h]<;>decide
 have kz:x.Small:=by rw[hx];exact⟨by show ar.size<=_;omega,by show aE.size<=_;omega,by show bU.size<=_;omega,by show user.size<=_;omega,by show pass.size<=_;omega,by show method.size<=_;omega,by show target.size<=_;omega,by show body.size<=_;omega,by show aB.size<=_;omega,by show k<_;omega⟩
 rw[<-hx];have aal:=O (show∀U,Fr ay w U->Calls Tryz.prog 46 #[.agg #[.int .i64 cH,.string ar,.string aE,.string aK,.bool aL,.string bU,.bool aX,dom],.agg #[.string user,.string pass],.string method,.string target,.string body,.string aB,.int .i64 (k:Int)] U fun e w'=>e=.returned (.string (js x))/\Fr ay U w' from fun U hU=>by
  have:=tO ⟨cH,ar,aE,aK,aL,bU,aX,dom⟩ x U kz (by rw[hx]) (by rw[hx]) (by rw[hx]) (by rw[hx]) (by rw[hx]) bG (Gs.fr hU) (hh.fr hU);rw[hx]at this ⊢;exact this)
 have Xt:=O (show∀U,Fr ay w U->Calls Tryz.prog 47 #[.int .i64 (k:Int)] U fun e w'=>e=.returned (.string (bA (ez k)))/\Fr ay U w' from fun U hU=>lK k U (by omega) (Gs.fr hU));have NAME:=O (fun U=>DV cH ar aE aK bU aL aX dom U);have hrs:=yd x;have HX:=O hx;have HQ:=O hq;have HS:=O hs;clear Gs hh kz
 obtain⟨w2,bK⟩:∃w2,w2=(w.alloc (.cells #[.int .i64 cH,.string ar,.string aE,.string aK,.bool aL,.string bU,.bool aX,dom] 47)).alloc (.cells #[.string user,.string pass] 31):=⟨_,rfl⟩;have bq:Fr ay w w2:=by rw[bK];exact((Fr.refl ay w).alloc _).alloc _
 have qV:w2.heap.size=w.heap.size+2:=by rw[bK];simp
 have k1:w2.heap[w.heap.size]?=some (.cells #[.int .i64 cH,.string ar,.string aE,.string aK,.bool aL,.string bU,.bool aX,dom] 47 (0,0)):=by rw[bK];exact((Fr.refl ay _).alloc _).keep (af _ _) (fun h=>h)
 have k2:w2.heap[w.heap.size+1]?=some (.cells #[.string user,.string pass] 31 (0,0)):=by
  have h:=af (w.alloc (.cells #[.int .i64 cH,.string ar,.string aE,.string aK,.bool aL,.string bU,.bool aX,dom] 47)) (.cells #[.string user,.string pass] 31);rw[World.size_alloc]at h;rw[bK];exact h
 have HC:=O (show∀U,Below w2.heap.size w2 U->(U.cell? ⟨w.heap.size,0,none⟩=some (.int .i64 cH)/\U.cell? ⟨w.heap.size,1,none⟩=some (.string ar)/\U.cell? ⟨w.heap.size,2,none⟩=some (.string aE)/\U.cell? ⟨w.heap.size,3,none⟩=some (.string aK)/\U.cell? ⟨w.heap.size,4,none⟩=some (.bool aL)/\U.cell? ⟨w.heap.size,5,none⟩=some (.string bU)/\U.cell? ⟨w.heap.size,6,none⟩=some (.bool aX)/\U.cell? ⟨w.heap.size,7,none⟩=some dom)/\U.cell? ⟨w.heap.size+1,0,none⟩=some (.string user)/\U.cell? ⟨w.heap.size+1,1,none⟩=some (.string pass)from fun U hU=>by
  have j1:=(hU.block w.heap.size (by omega)).trans k1;have j2:=(hU.block (w.heap.size+1) (by omega)).trans k2;exact⟨by simp[World.cell?,j1],by simp[World.cell?,j2]⟩)
 have jF:=O (show∀U,Below w2.heap.size w2 U->Fr ay w U from fun U hU=>bq.trans (Fr.gW hU));obtain⟨b,hb⟩:∃b,b=w2.heap.size:=⟨_,rfl⟩;obtain⟨w4,cY⟩:∃w4,w4=w2.alloc (.cells #[.pointer none,.slice none 0 0] 161):=⟨_,rfl⟩;have ph:pM b b [] w4:=by rw[cY,hb];exact Lib.IsBuilderF.of (Ah.new w2)
 have hB4:Below w2.heap.size w2 w4:=by rw[cY];exact(Below.refl _ w2).alloc (Nat.le_refl _) _
 have WY:w4.heap.size=b+1:=by rw[cY,hb];simp
 have ka:=O bK;have Tc:=O cY;have hkk:(k:Int)<=4294967295:=by omega
 have SL:¬(k:Int)<1:=by omega
 have SY:¬(4294967295:Int)<(k:Int):=by omega
 obtain⟨⟨c0,c1,c2,c3,c4,c5,c6,c7⟩,d0,d1⟩:=HC.out w2 (Below.refl _ _);rw[bK]at c0 c1 c2 c3 c4 c5 c6 c7 d0 d1;clear cY hx hq bq k1 k2;have pA:=O hb;have lH:=O (show b=w.heap.size+1+1 by omega);have HB:=O hb.symm;have Xg:=O ph;have PH:=O hB4;have HNL:=O (show(bA (kd cH aL)).size<=12 by
  show(kd cH aL).length<=12;unfold kd;split<;>cases aL<;>decide)
 have JC:=O (show(bA (ez k)).size<=8 by show(ez k).length<=8;unfold ez;rw[jd];exact Nat.le_refl _);clear ph hB4;obtain⟨dg,Ww⟩:∃dg,dg=tP cH aK x:=⟨_,rfl⟩;have uG:=O Ww;clear Ww;rcases HQ.out with hq0|hq0<;>rcases HS.out with zg|zg<;>subst hq0<;>subst zg
 all_goals
  go_enter Tryz.func44,Tryz.ntmps44;go_wp2_with fail
  rw[<-ka.out, <-Tc.out];rw[<-lH.out];refine(bE b b [] ⟨#[68,105,103,101,115,116,32]⟩ w4 Xg.out (by decide) (by omega)).mono ?_;rintro e w5⟨rfl,zD,u0,_⟩;have hs5:=u0.size;obtain⟨d,hd⟩:∃d,d=w5.heap.size:=⟨_,rfl⟩;obtain⟨w6,tY⟩:∃w6,w6=w5.alloc (.cells #[.bool false] 4):=⟨_,rfl⟩;have xf:=O (show b<d by omega)
  have aam:Below w2.heap.size w2 w6:=by rw[tY];exact(PH.out.trans (pA.out▸u0)).alloc (by have:=PH.out.size;omega) _
  have S0:=O (show St b d 0 w2 [] w6 from⟨by rw[tY];exact zD.bu ((Fr.refl ay w5).alloc _),by rw[tY,hd];exact af _ _,aam,by rw[tY];simp;omega,Nat.le_refl _,by decide⟩);have D4:=O tY;have wC:=O hd;clear c0 c1 c2 c3 c4 c5 c6 c7 d0 d1 zD u0 tY;obtain⟨⟨c0,c1,c2,c3,c4,c5,c6,c7⟩,d0,d1⟩:=HC.out w6 S0.out.jE;rw[D4.out]at c0 c1 c2 c3 c4 c5 c6 c7 d0 d1;go_wp2_with fail
  rw[<-wC.out, <-D4.out, <-lH.out];refine(gq b d 0 w2 _ _ I_ _ user true rfl pA.out xf.out (by decide) (by decide) (by omega) S0.out).mono ?_;rintro e W1⟨rfl,s1⟩;obtain⟨L1,l1,s1⟩:=s1.named;have S1:=O s1;have E1:=O l1;clear c0 c1 c2 c3 c4 c5 c6 c7 d0 d1 s1 l1;obtain⟨⟨c0,c1,c2,c3,c4,c5,c6,c7⟩,d0,d1⟩:=HC.out W1 S1.out.jE;go_wp2_with fail
  rw[<-wC.out, <-lH.out];refine(gq b d 1 w2 _ _ pH _ ar true rfl pA.out xf.out (by decide) (by decide) (by omega) S1.out).mono ?_;rintro e W2⟨rfl,s2⟩;obtain⟨L2,l2,s2⟩:=s2.named;have S2:=O s2;have E2:=O l2;clear c0 c1 c2 c3 c4 c5 c6 c7 d0 d1 s2 l2;obtain⟨⟨c0,c1,c2,c3,c4,c5,c6,c7⟩,d0,d1⟩:=HC.out W2 S2.out.jE;go_wp2_with fail
  rw[<-wC.out, <-lH.out];refine(gq b d 2 w2 _ _ pI _ aE true rfl pA.out xf.out (by decide) (by decide) (by omega) S2.out).mono ?_;rintro e W3⟨rfl,s3⟩;obtain⟨L3,l3,s3⟩:=s3.named;have S3:=O s3;have E3:=O l3;clear c0 c1 c2 c3 c4 c5 c6 c7 d0 d1 s3 l3;obtain⟨⟨c0,c1,c2,c3,c4,c5,c6,c7⟩,d0,d1⟩:=HC.out W3 S3.out.jE;go_wp2_with fail
  rw[<-wC.out, <-lH.out];refine(gq b d 3 w2 _ _ TS _ target true rfl pA.out xf.out (by decide) (by decide) (by omega) S3.out).mono ?_;rintro e W4⟨rfl,s4⟩;obtain⟨L4,l4,s4⟩:=s4.named;have S4:=O s4;have E4:=O l4;clear c0 c1 c2 c3 c4 c5 c6 c7 d0 d1 s4 l4;obtain⟨⟨c0,c1,c2,c3,c4,c5,c6,c7⟩,d0,d1⟩:=HC.out W4 S4.out.jE;go_wp2_with fail
  refine(aal.out W4 (jF.out _ S4.out.jE)).mono ?_;rintro e wr⟨rfl,aW⟩;have S5:=O (S4.out.D6 aW pA.out);clear c0 c1 c2 c3 c4 c5 c6 c7 d0 d1 aW;obtain⟨⟨c0,c1,c2,c3,c4,c5,c6,c7⟩,d0,d1⟩:=HC.out wr S5.out.jE;go_wp2_with fail
  rw[<-wC.out, <-lH.out];refine(gq b d 4 w2 _ _ I' _ (js x) true rfl pA.out xf.out (by decide) (by decide) (by omega) S5.out).mono ?_;rintro e W6⟨rfl,s6⟩;obtain⟨L6,l6,s6⟩:=s6.named;have S6:=O s6;have E6:=O l6;clear c0 c1 c2 c3 c4 c5 c6 c7 d0 d1 s6 l6;obtain⟨⟨c0,c1,c2,c3,c4,c5,c6,c7⟩,d0,d1⟩:=HC.out W6 S6.out.jE;go_wp2_with fail
  refine(NAME.out W6).mono ?_;rintro e wn⟨rfl,vY⟩;have S7:=O (S6.out.D6 vY pA.out);clear c0 c1 c2 c3 c4 c5 c6 c7 d0 d1 vY;obtain⟨⟨c0,c1,c2,c3,c4,c5,c6,c7⟩,d0,d1⟩:=HC.out wn S7.out.jE;go_wp2_with fail
  rw[<-wC.out, <-lH.out];refine(gq b d 5 w2 _ _ sY _ _ false rfl pA.out xf.out (by decide) (by decide) (by have:=HNL.out;omega) S7.out).mono ?_;rintro e W8⟨rfl,s8⟩;obtain⟨L8,l8,s8⟩:=s8.named;have S8:=O s8;have E8:=O l8;clear c0 c1 c2 c3 c4 c5 c6 c7 d0 d1 s8 l8;obtain⟨⟨c0,c1,c2,c3,c4,c5,c6,c7⟩,d0,d1⟩:=HC.out W8 S8.out.jE;go_wp2_with fail
  rw[<-wC.out, <-lH.out];refine(gq b d 6 w2 _ _ Dt _ _ false rfl pA.out xf.out (by decide) (by decide) (by decide) S8.out).mono ?_;rintro e W9⟨rfl,s9⟩;obtain⟨L9,l9,s9⟩:=s9.named;have S9:=O s9;have E9:=O l9;clear c0 c1 c2 c3 c4 c5 c6 c7 d0 d1 s9 l9;obtain⟨⟨c0,c1,c2,c3,c4,c5,c6,c7⟩,d0,d1⟩:=HC.out W9 S9.out.jE;go_wp2_with fail
  refine(Xt.out W9 (jF.out _ S9.out.jE)).mono ?_;rintro e wc⟨rfl,hfc⟩;have Td:=O (S9.out.D6 hfc pA.out);clear c0 c1 c2 c3 c4 c5 c6 c7 d0 d1 hfc;obtain⟨⟨c0,c1,c2,c3,c4,c5,c6,c7⟩,d0,d1⟩:=HC.out wc Td.out.jE;go_wp2_with fail
  rw[<-wC.out, <-lH.out];refine(gq b d 7 w2 _ _ nNc _ (bA (ez k)) false rfl pA.out xf.out (by decide) (by decide) (by have:=JC.out;omega) Td.out).mono ?_;rintro e PK⟨rfl,Ve⟩;obtain⟨L11,l11,Ve⟩:=Ve.named;have Vf:=O Ve;have E11:=O l11;clear c0 c1 c2 c3 c4 c5 c6 c7 d0 d1 Ve l11;obtain⟨⟨c0,c1,c2,c3,c4,c5,c6,c7⟩,d0,d1⟩:=HC.out PK Vf.out.jE;go_wp2_with fail
  rw[<-wC.out, <-lH.out];refine(gq b d 8 w2 _ _ xd _ aB true rfl pA.out xf.out (by decide) (by decide) (by omega) Vf.out).mono ?_;rintro e W12⟨rfl,s12⟩;obtain⟨L12,l12,s12⟩:=s12.named;have S12:=O s12;have E12:=O l12;clear c0 c1 c2 c3 c4 c5 c6 c7 d0 d1 s12 l12;obtain⟨⟨c0,c1,c2,c3,c4,c5,c6,c7⟩,d0,d1⟩:=HC.out W12 S12.out.jE;by_cases ho:aK.data.toList.isEmpty=true
  ·have o1:aK.toList=[]:=by rw[ByteArray.toList_eq];exact List.isEmpty_iff.1 ho
   have PI:xS aK.data.toList=[]:=by unfold xS;rw[if_pos ho]
   have o2:(aK.toList== [])=true:=by rw[o1];rfl
   have o3:aK.toList.isEmpty=true:=by rw[o1];rfl
   skip
   have yO:=kt S12.out.hd;rw[wC.out]at yO;have wa:=O (show dg.items=L12 by rw[uG.out,E12.out,E11.out,E9.out,E8.out,E6.out,E4.out,E3.out,E2.out,E1.out,HX.out];exact(show pU _ _ _ _ _ _++(xR _ _++(N4 _ _ _++xS aK.data.toList))=_ by rw[PI];rfl));cases jW:rZ L12 with
   |true =>
    have xi:=O (show dg.fair=false by have hb:=cE.qG dg;rw[wa.out,jW]at hb;simpa using hb.symm);rw[jW]at yO;go_wp2;go_ret2;exact⟨jF.out _ S12.out.jE,Or.inl ⟨uG.out▸xi.out,_,_,rfl⟩⟩
   |false =>
    rw[jW]at yO;have nj:=O (cE.qF (d:=dg) (by rw[wa.out];exact jW));have PJ:=O (cE.qH nj.out);go_wp2_with fail
    rw[<-lH.out];refine(Tryz.Builder_String_any_k b b (pT L12) W12 (by have h:=S12.out.hb;exact h) (S12.out.sz)).mono ?_;rintro e wz⟨rfl,_,FP,_⟩;go_wp2;go_ret2;refine⟨jF.out _ ((S12.out.jE).trans (pA.out▸FP)),Or.inr ⟨by decide,by rw[HX.out],by rw[HX.out];exact gZ,by rw[HX.out];exact ng,uG.out▸nj.out,?_⟩⟩;rw[<-uG.out, <-PJ.out,wa.out];rfl
  ·have FJ:aK.data.toList.isEmpty=false:=by simpa using ho
   have PI:xS aK.data.toList=[(gP,aK.data.toList,true)]:=by unfold xS;rw[if_neg ho]
   have o1:¬aK.toList=[]:=by rw[ByteArray.toList_eq];intro h;rw[h]at FJ;cases FJ
   have o2:(aK.toList== [])=false:=beq_eq_false_iff_ne.2 o1;have o3:aK.toList.isEmpty=false:=by rw[ByteArray.toList_eq];exact FJ
   go_wp2_with fail
   rw[<-wC.out, <-lH.out];refine(gq b d 9 w2 _ _ gP _ aK true rfl pA.out xf.out (by decide) (by decide) (by omega) S12.out).mono ?_;rintro e W13⟨rfl,s13⟩;obtain⟨L13,l13,s13⟩:=s13.named;have S13:=O s13;have E13:=O l13;clear c0 c1 c2 c3 c4 c5 c6 c7 d0 d1 s13 l13;obtain⟨⟨c0,c1,c2,c3,c4,c5,c6,c7⟩,d0,d1⟩:=HC.out W13 S13.out.jE;have yO:=kt S13.out.hd;rw[wC.out]at yO
   have wa:=O (show dg.items=L13 by rw[uG.out,E13.out,E12.out,E11.out,E9.out,E8.out,E6.out,E4.out,E3.out,E2.out,E1.out,HX.out];exact(show pU _ _ _ _ _ _++(xR _ _++(N4 _ _ _++xS aK.data.toList))=_ by rw[PI];rfl));cases jW:rZ L13 with
   |true =>
    have xi:=O (show dg.fair=false by have hb:=cE.qG dg;rw[wa.out,jW]at hb;simpa using hb.symm);rw[jW]at yO;go_wp2;go_ret2;exact⟨jF.out _ S13.out.jE,Or.inl ⟨uG.out▸xi.out,_,_,rfl⟩⟩
   |false =>
    rw[jW]at yO;have nj:=O (cE.qF (d:=dg) (by rw[wa.out];exact jW));have PJ:=O (cE.qH nj.out);go_wp2_with fail
    rw[<-lH.out];refine(Tryz.Builder_String_any_k b b (pT L13) W13 (by have h:=S13.out.hb;exact h) (S13.out.sz)).mono ?_;rintro e wz⟨rfl,_,FP,_⟩;go_wp2;go_ret2;refine⟨jF.out _ ((S13.out.jE).trans (pA.out▸FP)),Or.inr ⟨by decide,by rw[HX.out],by rw[HX.out];exact gZ,by rw[HX.out];exact ng,uG.out▸nj.out,?_⟩⟩;rw[<-uG.out, <-PJ.out,wa.out];rfl
end Go.Proofs.YtjdmjbdkdmbaiaaGreatDoor
