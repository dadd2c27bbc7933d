/- Lemmas for the law's walk. -/
import Derived.Test.YtjndhcngnghpiaaGreatDoorPo12
set_option maxRecDepth 100000
set_option maxHeartbeats 16000000
set_option linter.unusedSimpArgs false
namespace Go.Proofs.YtjndhcngnghpiaaGreatDoor
open Go.Proofs.Tryz
open Go.RowKit
theorem UC(fG:Int)(aP bz cC eY user pass method target body bI:ai)(cD du:Bool)(dom:Value)(k:Nat)(w:World)(dX:dom.oneCell'=true)
  (hq:eY=⟨#[]⟩)(hs:fG=2\/fG=3)(lI:1<=k)(rM:k<=4294967295)
  (x1:aP.size<=5000)(x2:bz.size<=5000)(x3:cC.size<=5000)(x4:user.size<=5000)(x5:pass.size<=5000)(x6:method.size<=5000)(x7:target.size<=5000)(x8:body.size<=5000)(x9:bI.size<=5000)
  (Mf:oC w 9 .u8 RJ)(hh:sO fG w) :
  aC 72 #[.agg #[.int .i64 fG,.string aP,.string bz,.string cC,.bool cD,.string eY,.bool du,dom],.agg #[.string user,.string pass],.string method,.string target,.string body,.string bI,.int .i64 (k:Int)] w (GL fG cC ⟨decide (fG=3),cD,aP,bz,eY,user,pass,method,target,body,bI,k⟩ k w):=by
 obtain⟨x,hx⟩:∃x:nK,x=⟨decide (fG=3),cD,aP,bz,eY,user,pass,method,target,body,bI,k⟩:=⟨_,rfl⟩;have xq:eY.size<=5000:=by rw[hq];decide
 have nv:x.Small:=by rw[hx];exact⟨by show aP.size<=_;omega,by show bz.size<=_;omega,by show eY.size<=_;omega,by show user.size<=_;omega,by show pass.size<=_;omega,by show method.size<=_;omega,by show target.size<=_;omega,by show body.size<=_;omega,by show bI.size<=_;omega,by show k<_;omega⟩
 rw[<-hx];have acE:=O (show∀U,Fr aW w U->aC 109 #[.agg #[.int .i64 fG,.string aP,.string bz,.string cC,.bool cD,.string eY,.bool du,dom],.agg #[.string user,.string pass],.string method,.string target,.string body,.string bI,.int .i64 (k:Int)] U fun e w'=>e=.returned (.string (nX x))/\Fr aW U w' from fun U hU=>by
  have:=yT ⟨fG,aP,bz,cC,cD,eY,du,dom⟩ x U nv (by rw[hx]) (by rw[hx]) (by rw[hx]) (by rw[hx]) (by rw[hx]) dX (Mf.fr hU) (hh.fr hU);rw[hx]at this ⊢;exact this)
 have aan:=O (show∀U,Fr aW w U->aC 111 #[.int .i64 (k:Int)] U fun e w'=>e=.returned (.string (bA (jl k)))/\Fr aW U w' from fun U hU=>qR k U ab (Mf.fr hU));have NAME:=O (fun U=>Jz fG aP bz cC eY cD du dom U);have hrs:=CX x;have HX:=O hx;have HQ:=O hq;have HS:=O hs;clear Mf hh nv
 obtain⟨w2,ez⟩:∃w2,w2=(w.alloc (.cells #[.int .i64 fG,.string aP,.string bz,.string cC,.bool cD,.string eY,.bool du,dom] 127)).alloc (.cells #[.string user,.string pass] 31):=⟨_,rfl⟩;have dD:Fr aW w w2:=by rw[ez];exact((ae aW w).alloc _).alloc _
 have wO:w2.heap.size=w.heap.size+2:=by rw[ez];simp
 have k1:w2.heap[w.heap.size]?=some (.cells #[.int .i64 fG,.string aP,.string bz,.string cC,.bool cD,.string eY,.bool du,dom] 127 (0,0)):=by rw[ez];exact((ae aW _).alloc _).keep (aB _ _) id
 have k2:w2.heap[w.heap.size+1]?=some (.cells #[.string user,.string pass] 31 (0,0)):=by
  have h:=aB (w.alloc (.cells #[.int .i64 fG,.string aP,.string bz,.string cC,.bool cD,.string eY,.bool du,dom] 127)) (.cells #[.string user,.string pass] 31);rw[bM]at h;rw[ez];exact h
 have HC:=O (show∀U,Below w2.heap.size w2 U->(U.cell? ⟨w.heap.size,0,none⟩=some (.int .i64 fG)/\U.cell? ⟨w.heap.size,1,none⟩=some (.string aP)/\U.cell? ⟨w.heap.size,2,none⟩=some (.string bz)/\U.cell? ⟨w.heap.size,3,none⟩=some (.string cC)/\U.cell? ⟨w.heap.size,4,none⟩=some (.bool cD)/\U.cell? ⟨w.heap.size,5,none⟩=some (.string eY)/\U.cell? ⟨w.heap.size,6,none⟩=some (.bool du)/\U.cell? ⟨w.heap.size,7,none⟩=some dom)/\U.cell? ⟨w.heap.size+1,0,none⟩=some (.string user)/\U.cell? ⟨w.heap.size+1,1,none⟩=some (.string pass)from fun U hU=>by
  have j1:=(hU.block w.heap.size ab).trans k1;have j2:=(hU.block (w.heap.size+1) ab).trans k2;exact⟨by simp[World.cell?,j1],by simp[World.cell?,j2]⟩)
 have rq:=O (show∀U,Below w2.heap.size w2 U->Fr aW w U from fun U hU=>dD.trans (fe hU));obtain⟨b,hb⟩:∃b,b=w2.heap.size:=⟨_,rfl⟩;obtain⟨w4,qh⟩:∃w4,w4=w2.alloc (.cells #[.pointer none,.slice none 0 0] 189):=⟨_,rfl⟩;have tC:vz b b [] w4:=by rw[qh,hb];exact Lib.IsBuilderF.of (EZ.new w2)
 have hB4:Below w2.heap.size w2 w4:=by rw[qh];exact(Below.refl _ w2).alloc (ay _) _
 have Z_:w4.heap.size=b+1:=by rw[qh,hb];simp
 have oz:=O ez;have MX:=O qh;have hkk:(k:Int)<=4294967295:=ab;have LY:¬(k:Int)<1:=ab;have Wi:¬(4294967295:Int)<(k:Int):=ab;obtain⟨⟨c0,c1,c2,c3,c4,c5,c6,c7⟩,d0,d1⟩:=HC.o w2 (Below.refl _ _);rw[ez]at c0 c1 c2 c3 c4 c5 c6 c7 d0 d1;clear qh hx hq dD k1 k2;have ur:=O hb;have qM:=O (show b=w.heap.size+1+1 from ab);have HB:=O hb.symm;have X1:=O tC;have UD:=O hB4
 have HNL:=O (show(bA (o7 fG cD)).size<=12 by
  show(o7 fG cD).length<=12;unfold o7;split<;>cases cD<;>decide)
 have Eo:=O (show(bA (jl k)).size<=8 by show(jl k).length<=8;unfold jl;rw[nJ];exact ay _);clear tC hB4;obtain⟨dg,ZC⟩:∃dg,dg=yU fG cC x:=⟨_,rfl⟩;have zR:=O ZC;clear ZC;obtain rfl:=HQ.o;rcases HS.o with hs0|hs0<;>subst hs0
 all_goals
  go_enter func72,ntmps72;go_wp2_with fail
  rw[<-oz.o, <-MX.o];rw[<-qM.o];refine(dZ b b [] ⟨#[68,105,103,101,115,116,32]⟩ w4 X1.o ag ab).mono ?_;rintro e w5⟨rfl,Eu,Aj,_⟩;have hs5:=Aj.size;obtain⟨d,hd⟩:∃d,d=w5.heap.size:=⟨_,rfl⟩;obtain⟨w6,zd⟩:∃w6,w6=w5.alloc (.cells #[.bool false] 4):=⟨_,rfl⟩;have BX:=O (show b<d from ab);have acG:Below w2.heap.size w2 w6:=by rw[zd];exact(UD.o.trans (ur.o▸Aj)).alloc (by have:=UD.o.size;omega) _
  have S0:=O (show St b d 0 w2 [] w6 from⟨by rw[zd];exact Eu.iY ((ae aW w5).alloc _),by rw[zd,hd];exact aB _ _,acG,by rw[zd];simp;omega,ay _,ag⟩);have PR:=O zd;have Bl:=O hd;clear c0 c1 c2 c3 c4 c5 c6 c7 d0 d1 Eu Aj zd;obtain⟨⟨c0,c1,c2,c3,c4,c5,c6,c7⟩,d0,d1⟩:=HC.o w6 S0.o.qT;rw[PR.o]at c0 c1 c2 c3 c4 c5 c6 c7 d0 d1;go_wp2_with fail
  rw[<-Bl.o, <-PR.o, <-qM.o];refine(lq b d 0 w2 _ _ Oc _ user true rfl ur.o BX.o ag ag ab S0.o).mono ?_;rintro e W1⟨rfl,s1⟩;obtain⟨L1,l1,s1⟩:=s1.named;have S1:=O s1;have E1:=O l1;clear c0 c1 c2 c3 c4 c5 c6 c7 d0 d1 s1 l1;obtain⟨⟨c0,c1,c2,c3,c4,c5,c6,c7⟩,d0,d1⟩:=HC.o W1 S1.o.qT;go_wp2_with fail
  rw[<-Bl.o, <-qM.o];refine(lq b d 1 w2 _ _ vr _ aP true rfl ur.o BX.o ag ag ab S1.o).mono ?_;rintro e W2⟨rfl,s2⟩;obtain⟨L2,l2,s2⟩:=s2.named;have S2:=O s2;have E2:=O l2;clear c0 c1 c2 c3 c4 c5 c6 c7 d0 d1 s2 l2;obtain⟨⟨c0,c1,c2,c3,c4,c5,c6,c7⟩,d0,d1⟩:=HC.o W2 S2.o.qT;go_wp2_with fail
  rw[<-Bl.o, <-qM.o];refine(lq b d 2 w2 _ _ vt _ bz true rfl ur.o BX.o ag ag ab S2.o).mono ?_;rintro e W3⟨rfl,s3⟩;obtain⟨L3,l3,s3⟩:=s3.named;have S3:=O s3;have E3:=O l3;clear c0 c1 c2 c3 c4 c5 c6 c7 d0 d1 s3 l3;obtain⟨⟨c0,c1,c2,c3,c4,c5,c6,c7⟩,d0,d1⟩:=HC.o W3 S3.o.qT;go_wp2_with fail
  rw[<-Bl.o, <-qM.o];refine(lq b d 3 w2 _ _ Xh _ target true rfl ur.o BX.o ag ag ab S3.o).mono ?_;rintro e W4⟨rfl,s4⟩;obtain⟨L4,l4,s4⟩:=s4.named;have S4:=O s4;have E4:=O l4;clear c0 c1 c2 c3 c4 c5 c6 c7 d0 d1 s4 l4;obtain⟨⟨c0,c1,c2,c3,c4,c5,c6,c7⟩,d0,d1⟩:=HC.o W4 S4.o.qT;go_wp2_with fail
  refine(acE.o W4 (rq.o _ S4.o.qT)).mono ?_;rintro e wr⟨rfl,cN⟩;have S5:=O (S4.o.JK cN ur.o);clear c0 c1 c2 c3 c4 c5 c6 c7 d0 d1 cN;obtain⟨⟨c0,c1,c2,c3,c4,c5,c6,c7⟩,d0,d1⟩:=HC.o wr S5.o.qT;go_wp2_with fail
  rw[<-Bl.o, <-qM.o];refine(lq b d 4 w2 _ _ Od _ (nX x) true rfl ur.o BX.o ag ag ab S5.o).mono ?_;rintro e W6⟨rfl,s6⟩;obtain⟨L6,l6,s6⟩:=s6.named;have S6:=O s6;have E6:=O l6;clear c0 c1 c2 c3 c4 c5 c6 c7 d0 d1 s6 l6;obtain⟨⟨c0,c1,c2,c3,c4,c5,c6,c7⟩,d0,d1⟩:=HC.o W6 S6.o.qT;go_wp2_with fail
  refine(NAME.o W6).mono ?_;rintro e wn⟨rfl,Fk⟩;have S7:=O (S6.o.JK Fk ur.o);clear c0 c1 c2 c3 c4 c5 c6 c7 d0 d1 Fk;obtain⟨⟨c0,c1,c2,c3,c4,c5,c6,c7⟩,d0,d1⟩:=HC.o wn S7.o.qT;go_wp2_with fail
  rw[<-Bl.o, <-qM.o];refine(lq b d 5 w2 _ _ yy _ _ false rfl ur.o BX.o ag ag (by have:=HNL.o;omega) S7.o).mono ?_;rintro e W8⟨rfl,s8⟩;obtain⟨L8,l8,s8⟩:=s8.named;have S8:=O s8;have E8:=O l8;clear c0 c1 c2 c3 c4 c5 c6 c7 d0 d1 s8 l8;obtain⟨⟨c0,c1,c2,c3,c4,c5,c6,c7⟩,d0,d1⟩:=HC.o W8 S8.o.qT;cases cD with
  |false =>
   by_cases ho:cC.data.toList.isEmpty=true
   ·have o1:cC.toList=[]:=by rw[aN];exact gj.1 ho
    have OV:CM cC.data.toList=[]:=by unfold CM;rw[aA ho]
    have o2:(cC.toList== [])=true:=by rw[o1];rfl
    have o3:cC.toList.isEmpty=true:=by rw[o1];rfl
    skip
    have DD:=pz S8.o.hd;rw[Bl.o]at DD;have Bd:=O (show dg.items=L8 by rw[zR.o,E8.o,E6.o,E4.o,E3.o,E2.o,E1.o,HX.o];exact(show vH _ _ _ _ _ _++(CK _ _++(S_ _ _ _++CM cC.data.toList))=_ by rw[OV];rfl));cases oK:xM L8 with
    |true =>
     have BG:=O (show dg.fair=false by have hb:=jx dg;rw[Bd.o,oK]at hb;simpa using hb.symm);rw[oK]at DD;go_wp2;go_ret2;exact⟨rq.o _ S8.o.qT,Or.inl ⟨zR.o▸BG.o,_,_,rfl⟩⟩
    |false =>
     rw[oK]at DD;have sk:=O (jy (d:=dg) (by rw[Bd.o];exact oK));have UE:=O (jz sk.o);go_wp2_with fail
     rw[<-qM.o];refine(Builder_String_any_k b b (vG L8) W8 (by have h:=S8.o.hb;exact h) (S8.o.sz)).mono ?_;rintro e wz⟨rfl,_,Ls,_⟩;go_wp2;go_ret2;refine⟨rq.o _ ((S8.o.qT).trans (ur.o▸Ls)),Or.inr ⟨ag,by rw[HX.o],by rw[HX.o];exact lI,by rw[HX.o];exact rM,zR.o▸sk.o,?_⟩⟩;rw[<-zR.o, <-UE.o,Bd.o];rfl
   ·have D_:cC.data.toList.isEmpty=false:=by simpa using ho
    have OV:CM cC.data.toList=[(lS,cC.data.toList,true)]:=by unfold CM;rw[ar ho]
    have o1:¬cC.toList=[]:=by rw[aN];intro h;rw[h]at D_;cases D_
    have o2:(cC.toList== [])=false:=aK.2 o1;have o3:cC.toList.isEmpty=false:=by rw[aN];exact D_
    go_wp2_with fail
    rw[<-Bl.o, <-qM.o];refine(lq b d 6 w2 _ _ lS _ cC true rfl ur.o BX.o ag ag ab S8.o).mono ?_;rintro e W9⟨rfl,s9⟩;obtain⟨L9,l9,s9⟩:=s9.named;have S9:=O s9;have E9:=O l9;clear c0 c1 c2 c3 c4 c5 c6 c7 d0 d1 s9 l9;obtain⟨⟨c0,c1,c2,c3,c4,c5,c6,c7⟩,d0,d1⟩:=HC.o W9 S9.o.qT;have DD:=pz S9.o.hd;rw[Bl.o]at DD
    have Bd:=O (show dg.items=L9 by rw[zR.o,E9.o,E8.o,E6.o,E4.o,E3.o,E2.o,E1.o,HX.o];exact(show vH _ _ _ _ _ _++(CK _ _++(S_ _ _ _++CM cC.data.toList))=_ by rw[OV];rfl));cases oK:xM L9 with
    |true =>
     have BG:=O (show dg.fair=false by have hb:=jx dg;rw[Bd.o,oK]at hb;simpa using hb.symm);rw[oK]at DD;go_wp2;go_ret2;exact⟨rq.o _ S9.o.qT,Or.inl ⟨zR.o▸BG.o,_,_,rfl⟩⟩
    |false =>
     rw[oK]at DD;have sk:=O (jy (d:=dg) (by rw[Bd.o];exact oK));have UE:=O (jz sk.o);go_wp2_with fail
     rw[<-qM.o];refine(Builder_String_any_k b b (vG L9) W9 (by have h:=S9.o.hb;exact h) (S9.o.sz)).mono ?_;rintro e wz⟨rfl,_,Ls,_⟩;go_wp2;go_ret2;refine⟨rq.o _ ((S9.o.qT).trans (ur.o▸Ls)),Or.inr ⟨ag,by rw[HX.o],by rw[HX.o];exact lI,by rw[HX.o];exact rM,zR.o▸sk.o,?_⟩⟩;rw[<-zR.o, <-UE.o,Bd.o];rfl
  |true =>
   go_wp2_with fail
   rw[<-Bl.o, <-qM.o];refine(lq b d 6 w2 _ _ BU _ bI true rfl ur.o BX.o ag ag ab S8.o).mono ?_;rintro e W10⟨rfl,s10⟩;obtain⟨L10,l10,s10⟩:=s10.named;have Wp:=O s10;have E10:=O l10;clear c0 c1 c2 c3 c4 c5 c6 c7 d0 d1 s10 l10;obtain⟨⟨c0,c1,c2,c3,c4,c5,c6,c7⟩,d0,d1⟩:=HC.o W10 Wp.o.qT;by_cases ho:cC.data.toList.isEmpty=true
   ·have o1:cC.toList=[]:=by rw[aN];exact gj.1 ho
    have OV:CM cC.data.toList=[]:=by unfold CM;rw[aA ho]
    have o2:(cC.toList== [])=true:=by rw[o1];rfl
    have o3:cC.toList.isEmpty=true:=by rw[o1];rfl
    skip
    have DD:=pz Wp.o.hd;rw[Bl.o]at DD;have Bd:=O (show dg.items=L10 by rw[zR.o,E10.o,E8.o,E6.o,E4.o,E3.o,E2.o,E1.o,HX.o];exact(show vH _ _ _ _ _ _++(CK _ _++(S_ _ _ _++CM cC.data.toList))=_ by rw[OV];rfl));cases oK:xM L10 with
    |true =>
     have BG:=O (show dg.fair=false by have hb:=jx dg;rw[Bd.o,oK]at hb;simpa using hb.symm);rw[oK]at DD;go_wp2;go_ret2;exact⟨rq.o _ Wp.o.qT,Or.inl ⟨zR.o▸BG.o,_,_,rfl⟩⟩
    |false =>
     rw[oK]at DD;have sk:=O (jy (d:=dg) (by rw[Bd.o];exact oK));have UE:=O (jz sk.o);go_wp2_with fail
     rw[<-qM.o];refine(Builder_String_any_k b b (vG L10) W10 (by have h:=Wp.o.hb;exact h) (Wp.o.sz)).mono ?_;rintro e wz⟨rfl,_,Ls,_⟩;go_wp2;go_ret2;refine⟨rq.o _ ((Wp.o.qT).trans (ur.o▸Ls)),Or.inr ⟨ag,by rw[HX.o],by rw[HX.o];exact lI,by rw[HX.o];exact rM,zR.o▸sk.o,?_⟩⟩;rw[<-zR.o, <-UE.o,Bd.o];rfl
   ·have D_:cC.data.toList.isEmpty=false:=by simpa using ho
    have OV:CM cC.data.toList=[(lS,cC.data.toList,true)]:=by unfold CM;rw[ar ho]
    have o1:¬cC.toList=[]:=by rw[aN];intro h;rw[h]at D_;cases D_
    have o2:(cC.toList== [])=false:=aK.2 o1;have o3:cC.toList.isEmpty=false:=by rw[aN];exact D_
    go_wp2_with fail
    rw[<-Bl.o, <-qM.o];refine(lq b d 7 w2 _ _ lS _ cC true rfl ur.o BX.o ag ag ab Wp.o).mono ?_;rintro e W11⟨rfl,Yx⟩;obtain⟨L11,l11,Yx⟩:=Yx.named;have Yy:=O Yx;have E11:=O l11;clear c0 c1 c2 c3 c4 c5 c6 c7 d0 d1 Yx l11;obtain⟨⟨c0,c1,c2,c3,c4,c5,c6,c7⟩,d0,d1⟩:=HC.o W11 Yy.o.qT;have DD:=pz Yy.o.hd;rw[Bl.o]at DD
    have Bd:=O (show dg.items=L11 by rw[zR.o,E11.o,E10.o,E8.o,E6.o,E4.o,E3.o,E2.o,E1.o,HX.o];exact(show vH _ _ _ _ _ _++(CK _ _++(S_ _ _ _++CM cC.data.toList))=_ by rw[OV];rfl));cases oK:xM L11 with
    |true =>
     have BG:=O (show dg.fair=false by have hb:=jx dg;rw[Bd.o,oK]at hb;simpa using hb.symm);rw[oK]at DD;go_wp2;go_ret2;exact⟨rq.o _ Yy.o.qT,Or.inl ⟨zR.o▸BG.o,_,_,rfl⟩⟩
    |false =>
     rw[oK]at DD;have sk:=O (jy (d:=dg) (by rw[Bd.o];exact oK));have UE:=O (jz sk.o);go_wp2_with fail
     rw[<-qM.o];refine(Builder_String_any_k b b (vG L11) W11 (by have h:=Yy.o.hb;exact h) (Yy.o.sz)).mono ?_;rintro e wz⟨rfl,_,Ls,_⟩;go_wp2;go_ret2;refine⟨rq.o _ ((Yy.o.qT).trans (ur.o▸Ls)),Or.inr ⟨ag,by rw[HX.o],by rw[HX.o];exact lI,by rw[HX.o];exact rM,zR.o▸sk.o,?_⟩⟩;rw[<-zR.o, <-UE.o,Bd.o];rfl
theorem Ko(fG:Int)(aP bz cC eY user pass method target body bI:ai)(cD du:Bool)(dom:Value)(k:Nat)(w:World)(dX:dom.oneCell'=true)
  (hq:eY=⟨#[97,117,116,104]⟩\/eY=⟨#[97,117,116,104,45,105,110,116]⟩)(hs:fG=2\/fG=3)(lI:1<=k)(rM:k<=4294967295)
  (x1:aP.size<=5000)(x2:bz.size<=5000)(x3:cC.size<=5000)(x4:user.size<=5000)(x5:pass.size<=5000)(x6:method.size<=5000)(x7:target.size<=5000)(x8:body.size<=5000)(x9:bI.size<=5000)
  (Mf:oC w 9 .u8 RJ)(hh:sO fG w) :
  aC 72 #[.agg #[.int .i64 fG,.string aP,.string bz,.string cC,.bool cD,.string eY,.bool du,dom],.agg #[.string user,.string pass],.string method,.string target,.string body,.string bI,.int .i64 (k:Int)] w (GL fG cC ⟨decide (fG=3),cD,aP,bz,eY,user,pass,method,target,body,bI,k⟩ k w):=by
 obtain⟨x,hx⟩:∃x:nK,x=⟨decide (fG=3),cD,aP,bz,eY,user,pass,method,target,body,bI,k⟩:=⟨_,rfl⟩;have xq:eY.size<=5000:=by rcases hq with h|h<;>rw[h]<;>decide
 have nv:x.Small:=by rw[hx];exact⟨by show aP.size<=_;omega,by show bz.size<=_;omega,by show eY.size<=_;omega,by show user.size<=_;omega,by show pass.size<=_;omega,by show method.size<=_;omega,by show target.size<=_;omega,by show body.size<=_;omega,by show bI.size<=_;omega,by show k<_;omega⟩
 rw[<-hx];have acE:=O (show∀U,Fr aW w U->aC 109 #[.agg #[.int .i64 fG,.string aP,.string bz,.string cC,.bool cD,.string eY,.bool du,dom],.agg #[.string user,.string pass],.string method,.string target,.string body,.string bI,.int .i64 (k:Int)] U fun e w'=>e=.returned (.string (nX x))/\Fr aW U w' from fun U hU=>by
  have:=yT ⟨fG,aP,bz,cC,cD,eY,du,dom⟩ x U nv (by rw[hx]) (by rw[hx]) (by rw[hx]) (by rw[hx]) (by rw[hx]) dX (Mf.fr hU) (hh.fr hU);rw[hx]at this ⊢;exact this)
 have aan:=O (show∀U,Fr aW w U->aC 111 #[.int .i64 (k:Int)] U fun e w'=>e=.returned (.string (bA (jl k)))/\Fr aW U w' from fun U hU=>qR k U ab (Mf.fr hU));have NAME:=O (fun U=>Jz fG aP bz cC eY cD du dom U);have hrs:=CX x;have HX:=O hx;have HQ:=O hq;have HS:=O hs;clear Mf hh nv
 obtain⟨w2,ez⟩:∃w2,w2=(w.alloc (.cells #[.int .i64 fG,.string aP,.string bz,.string cC,.bool cD,.string eY,.bool du,dom] 127)).alloc (.cells #[.string user,.string pass] 31):=⟨_,rfl⟩;have dD:Fr aW w w2:=by rw[ez];exact((ae aW w).alloc _).alloc _
 have wO:w2.heap.size=w.heap.size+2:=by rw[ez];simp
 have k1:w2.heap[w.heap.size]?=some (.cells #[.int .i64 fG,.string aP,.string bz,.string cC,.bool cD,.string eY,.bool du,dom] 127 (0,0)):=by rw[ez];exact((ae aW _).alloc _).keep (aB _ _) id
 have k2:w2.heap[w.heap.size+1]?=some (.cells #[.string user,.string pass] 31 (0,0)):=by
  have h:=aB (w.alloc (.cells #[.int .i64 fG,.string aP,.string bz,.string cC,.bool cD,.string eY,.bool du,dom] 127)) (.cells #[.string user,.string pass] 31);rw[bM]at h;rw[ez];exact h
 have HC:=O (show∀U,Below w2.heap.size w2 U->(U.cell? ⟨w.heap.size,0,none⟩=some (.int .i64 fG)/\U.cell? ⟨w.heap.size,1,none⟩=some (.string aP)/\U.cell? ⟨w.heap.size,2,none⟩=some (.string bz)/\U.cell? ⟨w.heap.size,3,none⟩=some (.string cC)/\U.cell? ⟨w.heap.size,4,none⟩=some (.bool cD)/\U.cell? ⟨w.heap.size,5,none⟩=some (.string eY)/\U.cell? ⟨w.heap.size,6,none⟩=some (.bool du)/\U.cell? ⟨w.heap.size,7,none⟩=some dom)/\U.cell? ⟨w.heap.size+1,0,none⟩=some (.string user)/\U.cell? ⟨w.heap.size+1,1,none⟩=some (.string pass)from fun U hU=>by
  have j1:=(hU.block w.heap.size ab).trans k1;have j2:=(hU.block (w.heap.size+1) ab).trans k2;exact⟨by simp[World.cell?,j1],by simp[World.cell?,j2]⟩)
 have rq:=O (show∀U,Below w2.heap.size w2 U->Fr aW w U from fun U hU=>dD.trans (fe hU));obtain⟨b,hb⟩:∃b,b=w2.heap.size:=⟨_,rfl⟩;obtain⟨w4,qh⟩:∃w4,w4=w2.alloc (.cells #[.pointer none,.slice none 0 0] 189):=⟨_,rfl⟩;have tC:vz b b [] w4:=by rw[qh,hb];exact Lib.IsBuilderF.of (EZ.new w2)
 have hB4:Below w2.heap.size w2 w4:=by rw[qh];exact(Below.refl _ w2).alloc (ay _) _
 have Z_:w4.heap.size=b+1:=by rw[qh,hb];simp
 have oz:=O ez;have MX:=O qh;have hkk:(k:Int)<=4294967295:=ab;have LY:¬(k:Int)<1:=ab;have Wi:¬(4294967295:Int)<(k:Int):=ab;obtain⟨⟨c0,c1,c2,c3,c4,c5,c6,c7⟩,d0,d1⟩:=HC.o w2 (Below.refl _ _);rw[ez]at c0 c1 c2 c3 c4 c5 c6 c7 d0 d1;clear qh hx hq dD k1 k2;have ur:=O hb;have qM:=O (show b=w.heap.size+1+1 from ab);have HB:=O hb.symm;have X1:=O tC;have UD:=O hB4
 have HNL:=O (show(bA (o7 fG cD)).size<=12 by
  show(o7 fG cD).length<=12;unfold o7;split<;>cases cD<;>decide)
 have Eo:=O (show(bA (jl k)).size<=8 by show(jl k).length<=8;unfold jl;rw[nJ];exact ay _);clear tC hB4;obtain⟨dg,ZC⟩:∃dg,dg=yU fG cC x:=⟨_,rfl⟩;have zR:=O ZC;clear ZC;rcases HQ.o with hq0|hq0<;>rcases HS.o with hs0|hs0<;>subst hq0<;>subst hs0
 all_goals
  go_enter func72,ntmps72;go_wp2_with fail
  rw[<-oz.o, <-MX.o];rw[<-qM.o];refine(dZ b b [] ⟨#[68,105,103,101,115,116,32]⟩ w4 X1.o ag ab).mono ?_;rintro e w5⟨rfl,Eu,Aj,_⟩;have hs5:=Aj.size;obtain⟨d,hd⟩:∃d,d=w5.heap.size:=⟨_,rfl⟩;obtain⟨w6,zd⟩:∃w6,w6=w5.alloc (.cells #[.bool false] 4):=⟨_,rfl⟩;have BX:=O (show b<d from ab);have acG:Below w2.heap.size w2 w6:=by rw[zd];exact(UD.o.trans (ur.o▸Aj)).alloc (by have:=UD.o.size;omega) _
  have S0:=O (show St b d 0 w2 [] w6 from⟨by rw[zd];exact Eu.iY ((ae aW w5).alloc _),by rw[zd,hd];exact aB _ _,acG,by rw[zd];simp;omega,ay _,ag⟩);have PR:=O zd;have Bl:=O hd;clear c0 c1 c2 c3 c4 c5 c6 c7 d0 d1 Eu Aj zd;obtain⟨⟨c0,c1,c2,c3,c4,c5,c6,c7⟩,d0,d1⟩:=HC.o w6 S0.o.qT;rw[PR.o]at c0 c1 c2 c3 c4 c5 c6 c7 d0 d1;go_wp2_with fail
  rw[<-Bl.o, <-PR.o, <-qM.o];refine(lq b d 0 w2 _ _ Oc _ user true rfl ur.o BX.o ag ag ab S0.o).mono ?_;rintro e W1⟨rfl,s1⟩;obtain⟨L1,l1,s1⟩:=s1.named;have S1:=O s1;have E1:=O l1;clear c0 c1 c2 c3 c4 c5 c6 c7 d0 d1 s1 l1;obtain⟨⟨c0,c1,c2,c3,c4,c5,c6,c7⟩,d0,d1⟩:=HC.o W1 S1.o.qT;go_wp2_with fail
  rw[<-Bl.o, <-qM.o];refine(lq b d 1 w2 _ _ vr _ aP true rfl ur.o BX.o ag ag ab S1.o).mono ?_;rintro e W2⟨rfl,s2⟩;obtain⟨L2,l2,s2⟩:=s2.named;have S2:=O s2;have E2:=O l2;clear c0 c1 c2 c3 c4 c5 c6 c7 d0 d1 s2 l2;obtain⟨⟨c0,c1,c2,c3,c4,c5,c6,c7⟩,d0,d1⟩:=HC.o W2 S2.o.qT;go_wp2_with fail
  rw[<-Bl.o, <-qM.o];refine(lq b d 2 w2 _ _ vt _ bz true rfl ur.o BX.o ag ag ab S2.o).mono ?_;rintro e W3⟨rfl,s3⟩;obtain⟨L3,l3,s3⟩:=s3.named;have S3:=O s3;have E3:=O l3;clear c0 c1 c2 c3 c4 c5 c6 c7 d0 d1 s3 l3;obtain⟨⟨c0,c1,c2,c3,c4,c5,c6,c7⟩,d0,d1⟩:=HC.o W3 S3.o.qT;go_wp2_with fail
  rw[<-Bl.o, <-qM.o];refine(lq b d 3 w2 _ _ Xh _ target true rfl ur.o BX.o ag ag ab S3.o).mono ?_;rintro e W4⟨rfl,s4⟩;obtain⟨L4,l4,s4⟩:=s4.named;have S4:=O s4;have E4:=O l4;clear c0 c1 c2 c3 c4 c5 c6 c7 d0 d1 s4 l4;obtain⟨⟨c0,c1,c2,c3,c4,c5,c6,c7⟩,d0,d1⟩:=HC.o W4 S4.o.qT;go_wp2_with fail
  refine(acE.o W4 (rq.o _ S4.o.qT)).mono ?_;rintro e wr⟨rfl,cN⟩;have S5:=O (S4.o.JK cN ur.o);clear c0 c1 c2 c3 c4 c5 c6 c7 d0 d1 cN;obtain⟨⟨c0,c1,c2,c3,c4,c5,c6,c7⟩,d0,d1⟩:=HC.o wr S5.o.qT;go_wp2_with fail
  rw[<-Bl.o, <-qM.o];refine(lq b d 4 w2 _ _ Od _ (nX x) true rfl ur.o BX.o ag ag ab S5.o).mono ?_;rintro e W6⟨rfl,s6⟩;obtain⟨L6,l6,s6⟩:=s6.named;have S6:=O s6;have E6:=O l6;clear c0 c1 c2 c3 c4 c5 c6 c7 d0 d1 s6 l6;obtain⟨⟨c0,c1,c2,c3,c4,c5,c6,c7⟩,d0,d1⟩:=HC.o W6 S6.o.qT;go_wp2_with fail
  refine(NAME.o W6).mono ?_;rintro e wn⟨rfl,Fk⟩;have S7:=O (S6.o.JK Fk ur.o);clear c0 c1 c2 c3 c4 c5 c6 c7 d0 d1 Fk;obtain⟨⟨c0,c1,c2,c3,c4,c5,c6,c7⟩,d0,d1⟩:=HC.o wn S7.o.qT;go_wp2_with fail
  rw[<-Bl.o, <-qM.o];refine(lq b d 5 w2 _ _ yy _ _ false rfl ur.o BX.o ag ag (by have:=HNL.o;omega) S7.o).mono ?_;rintro e W8⟨rfl,s8⟩;obtain⟨L8,l8,s8⟩:=s8.named;have S8:=O s8;have E8:=O l8;clear c0 c1 c2 c3 c4 c5 c6 c7 d0 d1 s8 l8;obtain⟨⟨c0,c1,c2,c3,c4,c5,c6,c7⟩,d0,d1⟩:=HC.o W8 S8.o.qT;go_wp2_with fail
  rw[<-Bl.o, <-qM.o];refine(lq b d 6 w2 _ _ I7 _ _ false rfl ur.o BX.o ag ag ag S8.o).mono ?_;rintro e W9⟨rfl,s9⟩;obtain⟨L9,l9,s9⟩:=s9.named;have S9:=O s9;have E9:=O l9;clear c0 c1 c2 c3 c4 c5 c6 c7 d0 d1 s9 l9;obtain⟨⟨c0,c1,c2,c3,c4,c5,c6,c7⟩,d0,d1⟩:=HC.o W9 S9.o.qT;go_wp2_with fail
  refine(aan.o W9 (rq.o _ S9.o.qT)).mono ?_;rintro e wc⟨rfl,hfc⟩;have Wp:=O (S9.o.JK hfc ur.o);clear c0 c1 c2 c3 c4 c5 c6 c7 d0 d1 hfc;obtain⟨⟨c0,c1,c2,c3,c4,c5,c6,c7⟩,d0,d1⟩:=HC.o wc Wp.o.qT;go_wp2_with fail
  rw[<-Bl.o, <-qM.o];refine(lq b d 7 w2 _ _ nNc _ (bA (jl k)) false rfl ur.o BX.o ag ag (by have:=Eo.o;omega) Wp.o).mono ?_;rintro e W11⟨rfl,Yx⟩;obtain⟨L11,l11,Yx⟩:=Yx.named;have Yy:=O Yx;have E11:=O l11;clear c0 c1 c2 c3 c4 c5 c6 c7 d0 d1 Yx l11;obtain⟨⟨c0,c1,c2,c3,c4,c5,c6,c7⟩,d0,d1⟩:=HC.o W11 Yy.o.qT;go_wp2_with fail
  rw[<-Bl.o, <-qM.o];refine(lq b d 8 w2 _ _ BU _ bI true rfl ur.o BX.o ag ag ab Yy.o).mono ?_;rintro e W12⟨rfl,s12⟩;obtain⟨L12,l12,s12⟩:=s12.named;have S12:=O s12;have E12:=O l12;clear c0 c1 c2 c3 c4 c5 c6 c7 d0 d1 s12 l12;obtain⟨⟨c0,c1,c2,c3,c4,c5,c6,c7⟩,d0,d1⟩:=HC.o W12 S12.o.qT;by_cases ho:cC.data.toList.isEmpty=true
  ·have o1:cC.toList=[]:=by rw[aN];exact gj.1 ho
   have OV:CM cC.data.toList=[]:=by unfold CM;rw[aA ho]
   have o2:(cC.toList== [])=true:=by rw[o1];rfl
   have o3:cC.toList.isEmpty=true:=by rw[o1];rfl
   skip
   have DD:=pz S12.o.hd;rw[Bl.o]at DD;have Bd:=O (show dg.items=L12 by rw[zR.o,E12.o,E11.o,E9.o,E8.o,E6.o,E4.o,E3.o,E2.o,E1.o,HX.o];exact(show vH _ _ _ _ _ _++(CK _ _++(S_ _ _ _++CM cC.data.toList))=_ by rw[OV];rfl));cases oK:xM L12 with
   |true =>
    have BG:=O (show dg.fair=false by have hb:=jx dg;rw[Bd.o,oK]at hb;simpa using hb.symm);rw[oK]at DD;go_wp2;go_ret2;exact⟨rq.o _ S12.o.qT,Or.inl ⟨zR.o▸BG.o,_,_,rfl⟩⟩
   |false =>
    rw[oK]at DD;have sk:=O (jy (d:=dg) (by rw[Bd.o];exact oK));have UE:=O (jz sk.o);go_wp2_with fail
    rw[<-qM.o];refine(Builder_String_any_k b b (vG L12) W12 (by have h:=S12.o.hb;exact h) (S12.o.sz)).mono ?_;rintro e wz⟨rfl,_,Ls,_⟩;go_wp2;go_ret2;refine⟨rq.o _ ((S12.o.qT).trans (ur.o▸Ls)),Or.inr ⟨ag,by rw[HX.o],by rw[HX.o];exact lI,by rw[HX.o];exact rM,zR.o▸sk.o,?_⟩⟩;rw[<-zR.o, <-UE.o,Bd.o];rfl
  ·have D_:cC.data.toList.isEmpty=false:=by simpa using ho
   have OV:CM cC.data.toList=[(lS,cC.data.toList,true)]:=by unfold CM;rw[ar ho]
   have o1:¬cC.toList=[]:=by rw[aN];intro h;rw[h]at D_;cases D_
   have o2:(cC.toList== [])=false:=aK.2 o1;have o3:cC.toList.isEmpty=false:=by rw[aN];exact D_
   go_wp2_with fail
   rw[<-Bl.o, <-qM.o];refine(lq b d 9 w2 _ _ lS _ cC true rfl ur.o BX.o ag ag ab S12.o).mono ?_;rintro e W13⟨rfl,s13⟩;obtain⟨L13,l13,s13⟩:=s13.named;have S13:=O s13;have E13:=O l13;clear c0 c1 c2 c3 c4 c5 c6 c7 d0 d1 s13 l13;obtain⟨⟨c0,c1,c2,c3,c4,c5,c6,c7⟩,d0,d1⟩:=HC.o W13 S13.o.qT;have DD:=pz S13.o.hd;rw[Bl.o]at DD
   have Bd:=O (show dg.items=L13 by rw[zR.o,E13.o,E12.o,E11.o,E9.o,E8.o,E6.o,E4.o,E3.o,E2.o,E1.o,HX.o];exact(show vH _ _ _ _ _ _++(CK _ _++(S_ _ _ _++CM cC.data.toList))=_ by rw[OV];rfl));cases oK:xM L13 with
   |true =>
    have BG:=O (show dg.fair=false by have hb:=jx dg;rw[Bd.o,oK]at hb;simpa using hb.symm);rw[oK]at DD;go_wp2;go_ret2;exact⟨rq.o _ S13.o.qT,Or.inl ⟨zR.o▸BG.o,_,_,rfl⟩⟩
   |false =>
    rw[oK]at DD;have sk:=O (jy (d:=dg) (by rw[Bd.o];exact oK));have UE:=O (jz sk.o);go_wp2_with fail
    rw[<-qM.o];refine(Builder_String_any_k b b (vG L13) W13 (by have h:=S13.o.hb;exact h) (S13.o.sz)).mono ?_;rintro e wz⟨rfl,_,Ls,_⟩;go_wp2;go_ret2;refine⟨rq.o _ ((S13.o.qT).trans (ur.o▸Ls)),Or.inr ⟨ag,by rw[HX.o],by rw[HX.o];exact lI,by rw[HX.o];exact rM,zR.o▸sk.o,?_⟩⟩;rw[<-zR.o, <-UE.o,Bd.o];rfl
def B9(fG:Int)(cC:ai)(x:nK)(n:Int):Prop:=((fG=2\/fG=3)/\(x.eY.data.toList=[]\/x.eY.data.toList=lR\/x.eY.data.toList=pR))/\(1<=n/\n<=4294967295)/\(yU fG cC x).fair=true
def oL(fG:Int)(cC:ai)(x:nK)(n:Int)(w:World)(e:Ending)(w':World):Prop :=
 Fr aW w w'/\((¬B9 fG cC x n/\∃t v,e=.returned (.tuple #[.string ⟨#[]⟩,.iface t v]))\/(B9 fG cC x n/\e=.returned (.tuple #[.string (bA (yU fG cC x).text),.nilIface])))
theorem QF(fG:Int)(aP bz cC eY user pass method target body bI:ai)(cD du:Bool)(dom:Value)(n:Int)(w:World)(dX:dom.oneCell'=true)
  (x1:aP.size<=5000)(x2:bz.size<=5000)(x3:cC.size<=5000)(x4:user.size<=5000)(x5:pass.size<=5000)(x6:method.size<=5000)(x7:target.size<=5000)(x8:body.size<=5000)(x9:bI.size<=5000)
  (Mf:oC w 9 .u8 RJ)(hh:sO fG w) :
  aC 72 #[.agg #[.int .i64 fG,.string aP,.string bz,.string cC,.bool cD,.string eY,.bool du,dom],.agg #[.string user,.string pass],.string method,.string target,.string body,.string bI,.int .i64 n] w (oL fG cC ⟨decide (fG=3),cD,aP,bz,eY,user,pass,method,target,body,bI,n.toNat⟩ n w):=by
 have yc:∀l:Bs,eY.toList=l->eY=⟨l.toArray⟩:=fun l h=>Go.WideShapes.bytes_inj (by rw[<-aN,h]);by_cases hsq:(fG=2\/fG=3)/\(eY.toList=[]\/eY.toList=[97,117,116,104]\/eY.toList=[97,117,116,104,45,105,110,116])
 ·obtain⟨hs,hq⟩:=hsq;by_cases hn:1<=n/\n<=4294967295
  ·obtain⟨Ij,zU⟩:=hn;obtain⟨k,rfl⟩:∃k:Nat,n=(k:Int):=⟨n.toNat,ab⟩;have key:aC 72 #[.agg #[.int .i64 fG,.string aP,.string bz,.string cC,.bool cD,.string eY,.bool du,dom],.agg #[.string user,.string pass],.string method,.string target,.string body,.string bI,.int .i64 (k:Int)] w (GL fG cC ⟨decide (fG=3),cD,aP,bz,eY,user,pass,method,target,body,bI,k⟩ k w):=by
    rcases hq with hq|hq|hq
    ·exact UC fG aP bz cC eY user pass method target body bI cD du dom k w dX (yc _ hq) hs ab ab x1 x2 x3 x4 x5 x6 x7 x8 x9 Mf hh
    ·exact Ko fG aP bz cC eY user pass method target body bI cD du dom k w dX (Or.inl (yc _ hq)) hs ab ab x1 x2 x3 x4 x5 x6 x7 x8 x9 Mf hh
    ·exact Ko fG aP bz cC eY user pass method target body bI cD du dom k w dX (Or.inr (yc _ hq)) hs ab ab x1 x2 x3 x4 x5 x6 x7 x8 x9 Mf hh
   refine key.mono ?_;rintro e w'⟨hf,hm⟩;refine⟨hf,?_⟩;rcases hm with ⟨hm,hr⟩|⟨h1,h2,h3,h4,h5,h6⟩
   ·exact Or.inl ⟨fun hg=>(by have hg:=hg.2.2;rw[Int.toNat_natCast,hm]at hg;cases hg),hr⟩
   ·refine Or.inr ⟨⟨⟨h1,?_⟩,⟨ab,ab⟩,h5⟩,h6⟩;show eY.data.toList=[]\/eY.data.toList=lR\/eY.data.toList=pR;rw[<-aN];exact hq
  ·have GF:n<1\/4294967295<n:=ab;have hng:∀x,¬B9 fG cC x n:=fun x h=>hn h.2.1;clear hn;have HG:∀t v (w':World),Fr aW w w'->oL fG cC ⟨decide (fG=3),cD,aP,bz,eY,user,pass,method,target,body,bI,n.toNat⟩ n w (.returned (.tuple #[.string ⟨#[]⟩,.iface t v])) w':=fun t v w' hf=>⟨hf,Or.inl ⟨hng _,t,v,rfl⟩⟩;have HGG:=O HG;clear HG hng
   generalize oL fG cC ⟨decide (fG=3),cD,aP,bz,eY,user,pass,method,target,body,bI,n.toNat⟩ n w=Q at *
   have dD:Fr aW w ((w.alloc (.cells #[.int .i64 fG,.string aP,.string bz,.string cC,.bool cD,.string eY,.bool du,dom] 127)).alloc (.cells #[.string user,.string pass] 31)):=((ae aW w).alloc _).alloc _;have fS:=O dD;clear dD;rcases GF with hn|hn
   ·rcases hs with rfl|rfl<;>rcases hq with hq|hq|hq<;>obtain rfl:=yc _ hq<;>clear hq <;>
     (go_enter func72,ntmps72
      go_wp2
      (first|go_ret2|skip)
      exact HGG.o _ _ _ fS.o)
   ·have Og:¬n<1:=ab;rcases hs with rfl|rfl<;>rcases hq with hq|hq|hq<;>obtain rfl:=yc _ hq<;>clear hq <;>
     (go_enter func72,ntmps72
      go_wp2
      (first|go_ret2|skip)
      exact HGG.o _ _ _ fS.o)
 ·have hng:∀x:nK,x.eY=eY->¬B9 fG cC x n:=fun x hx h=>hsq ⟨h.1.1,by rw[<-hx,aN];exact h.1.2⟩;have HG:∀t v (w':World),Fr aW w w'->oL fG cC ⟨decide (fG=3),cD,aP,bz,eY,user,pass,method,target,body,bI,n.toNat⟩ n w (.returned (.tuple #[.string ⟨#[]⟩,.iface t v])) w':=fun t v w' hf=>⟨hf,Or.inl ⟨hng _ rfl,t,v,rfl⟩⟩;have HGG:=O HG;clear HG hng
  generalize oL fG cC ⟨decide (fG=3),cD,aP,bz,eY,user,pass,method,target,body,bI,n.toNat⟩ n w=Q at *
  have dD:Fr aW w ((w.alloc (.cells #[.int .i64 fG,.string aP,.string bz,.string cC,.bool cD,.string eY,.bool du,dom] 127)).alloc (.cells #[.string user,.string pass] 31)):=((ae aW w).alloc _).alloc _;have fS:=O dD;clear dD;by_cases hs:fG=2\/fG=3
  ·have hq:¬(eY.toList=[]\/eY.toList=[97,117,116,104]\/eY.toList=[97,117,116,104,45,105,110,116]):=fun h=>hsq ⟨hs,h⟩;have q1:¬eY.toList=[]:=fun h=>hq (Or.inl h);have q2:¬eY.toList=[97,117,116,104]:=fun h=>hq (Or.inr (Or.inl h));have q3:¬eY.toList=[97,117,116,104,45,105,110,116]:=fun h=>hq (Or.inr (Or.inr h));have q4:(eY.toList== [])=false:=aK.2 q1
   have q5:(eY.toList== [97,117,116,104])=false:=aK.2 q2;have q6:(eY.toList== [97,117,116,104,45,105,110,116])=false:=aK.2 q3;have q7:eY.toList.isEmpty=false:=by cases hz:eY.toList with|nil=>exact absurd hz q1|cons _ _=>rfl
   clear hsq hq yc;rcases hs with rfl|rfl
   ·go_enter func72,ntmps72;go_wp2
    (first|go_ret2|skip)
    exact HGG.o _ _ _ fS.o
   ·go_enter func72,ntmps72;go_wp2
    (first|go_ret2|skip)
    exact HGG.o _ _ _ fS.o
  ·have s2:¬fG=2:=fun h=>hs (Or.inl h);have s3:¬fG=3:=fun h=>hs (Or.inr h);clear hs hsq yc;go_enter func72,ntmps72;go_wp2
   (first|go_ret2|skip)
   exact HGG.o _ _ _ fS.o
