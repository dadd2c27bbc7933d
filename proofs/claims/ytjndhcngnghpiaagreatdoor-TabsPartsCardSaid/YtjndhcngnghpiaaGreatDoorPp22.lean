/- Lemmas for the law's walk. -/
import Derived.Test.YtjndhcngnghpiaaGreatDoorPp12
set_option maxRecDepth 100000
set_option maxHeartbeats 16000000
set_option linter.unusedSimpArgs false
namespace Go.Proofs.YtjndhcngnghpiaaGreatDoor
open Go.Proofs.Tryz
open Go.RowKit
theorem Ua(fI:Int)(aO bC cj eZ user pass method target body bz:ai)(cy dr:Bool)(dom:Value)(k:Nat)(w:World)(ec:dom.oneCell'=true)
  (hq:eZ=⟨#[]⟩)(hs:fI=2\/fI=3)(l_:1<=k)(sH:k<=4294967295)
  (x1:aO.size<=5000)(x2:bC.size<=5000)(x3:cj.size<=5000)(x4:user.size<=5000)(x5:pass.size<=5000)(x6:method.size<=5000)(x7:target.size<=5000)(x8:body.size<=5000)(x9:bz.size<=5000)
  (LD:oz w 9 .u8 Rf)(hh:sK fI w) :
  aE 72 #[.agg #[.int .i64 fI,.string aO,.string bC,.string cj,.bool cy,.string eZ,.bool dr,dom],.agg #[.string user,.string pass],.string method,.string target,.string body,.string bz,.int .i64 (k:Int)] w (Gg fI cj ⟨decide (fI=3),cy,aO,bC,eZ,user,pass,method,target,body,bz,k⟩ k w):=by
 obtain⟨x,hx⟩:∃x:nD,x=⟨decide (fI=3),cy,aO,bC,eZ,user,pass,method,target,body,bz,k⟩:=⟨_,rfl⟩;have xq:eZ.size<=5000:=by rw[hq];decide
 have oO:x.Small:=by rw[hx];exact⟨by show aO.size<=_;omega,by show bC.size<=_;omega,by show eZ.size<=_;omega,by show user.size<=_;omega,by show pass.size<=_;omega,by show method.size<=_;omega,by show target.size<=_;omega,by show body.size<=_;omega,by show bz.size<=_;omega,by show k<_;omega⟩
 rw[<-hx];have acn:=O (show∀U,Fr aX w U->aE 109 #[.agg #[.int .i64 fI,.string aO,.string bC,.string cj,.bool cy,.string eZ,.bool dr,dom],.agg #[.string user,.string pass],.string method,.string target,.string body,.string bz,.int .i64 (k:Int)] U fun e w'=>e=.returned (.string (nO x))/\Fr aX U w' from fun U hU=>by
  have:=yJ ⟨fI,aO,bC,cj,cy,eZ,dr,dom⟩ x U oO (by rw[hx]) (by rw[hx]) (by rw[hx]) (by rw[hx]) (by rw[hx]) ec (LD.fr hU) (hh.fr hU);rw[hx]at this ⊢;exact this)
 have Z7:=O (show∀U,Fr aX w U->aE 111 #[.int .i64 (k:Int)] U fun e w'=>e=.returned (.string (bA (jr k)))/\Fr aX U w' from fun U hU=>qO k U ab (LD.fr hU));have NAME:=O (fun U=>I_ fI aO bC cj eZ cy dr dom U);have hrs:=Cz x;have HX:=O hx;have HQ:=O hq;have HS:=O hs;clear LD hh oO
 obtain⟨w2,eC⟩:∃w2,w2=(w.alloc (.cells #[.int .i64 fI,.string aO,.string bC,.string cj,.bool cy,.string eZ,.bool dr,dom] 127)).alloc (.cells #[.string user,.string pass] 31):=⟨_,rfl⟩;have dF:Fr aX w w2:=by rw[eC];exact((ae aX w).alloc _).alloc _
 have wG:w2.heap.size=w.heap.size+2:=by rw[eC];simp
 have k1:w2.heap[w.heap.size]?=some (.cells #[.int .i64 fI,.string aO,.string bC,.string cj,.bool cy,.string eZ,.bool dr,dom] 127 (0,0)):=by rw[eC];exact((ae aX _).alloc _).keep (aC _ _) id
 have k2:w2.heap[w.heap.size+1]?=some (.cells #[.string user,.string pass] 31 (0,0)):=by
  have h:=aC (w.alloc (.cells #[.int .i64 fI,.string aO,.string bC,.string cj,.bool cy,.string eZ,.bool dr,dom] 127)) (.cells #[.string user,.string pass] 31);rw[bK]at h;rw[eC];exact h
 have HC:=O (show∀U,Below w2.heap.size w2 U->(U.cell? ⟨w.heap.size,0,none⟩=some (.int .i64 fI)/\U.cell? ⟨w.heap.size,1,none⟩=some (.string aO)/\U.cell? ⟨w.heap.size,2,none⟩=some (.string bC)/\U.cell? ⟨w.heap.size,3,none⟩=some (.string cj)/\U.cell? ⟨w.heap.size,4,none⟩=some (.bool cy)/\U.cell? ⟨w.heap.size,5,none⟩=some (.string eZ)/\U.cell? ⟨w.heap.size,6,none⟩=some (.bool dr)/\U.cell? ⟨w.heap.size,7,none⟩=some dom)/\U.cell? ⟨w.heap.size+1,0,none⟩=some (.string user)/\U.cell? ⟨w.heap.size+1,1,none⟩=some (.string pass)from fun U hU=>by
  have j1:=(hU.block w.heap.size ab).trans k1;have j2:=(hU.block (w.heap.size+1) ab).trans k2;exact⟨by simp[World.cell?,j1],by simp[World.cell?,j2]⟩)
 have rm:=O (show∀U,Below w2.heap.size w2 U->Fr aX w U from fun U hU=>dF.trans (fe hU));obtain⟨b,hb⟩:∃b,b=w2.heap.size:=⟨_,rfl⟩;obtain⟨w4,qf⟩:∃w4,w4=w2.alloc (.cells #[.pointer none,.slice none 0 0] 189):=⟨_,rfl⟩;have uP:vr b b [] w4:=by rw[qf,hb];exact Lib.IsBuilderF.of (EB.new w2)
 have hB4:Below w2.heap.size w2 w4:=by rw[qf];exact(Below.refl _ w2).alloc (az _) _
 have ZQ:w4.heap.size=b+1:=by rw[qf,hb];simp
 have ow:=O eC;have Ms:=O qf;have hkk:(k:Int)<=4294967295:=ab;have VN:¬(k:Int)<1:=ab;have VY:¬(4294967295:Int)<(k:Int):=ab;obtain⟨⟨c0,c1,c2,c3,c4,c5,c6,c7⟩,d0,d1⟩:=HC.o w2 (Below.refl _ _);rw[eC]at c0 c1 c2 c3 c4 c5 c6 c7 d0 d1;clear qf hx hq dF k1 k2;have tF:=O hb;have qL:=O (show b=w.heap.size+1+1 from ab);have HB:=O hb.symm;have XC:=O uP;have Ub:=O hB4
 have HNL:=O (show(bA (oW fI cy)).size<=12 by
  show(oW fI cy).length<=12;unfold oW;split<;>cases cy<;>decide)
 have D1:=O (show(bA (jr k)).size<=8 by show(jr k).length<=8;unfold jr;rw[nC];exact az _);clear uP hB4;obtain⟨dg,Zi⟩:∃dg,dg=yK fI cj x:=⟨_,rfl⟩;have zC:=O Zi;clear Zi;obtain rfl:=HQ.o;rcases HS.o with hs0|hs0<;>subst hs0
 all_goals
  go_enter func72,ntmps72;go_wp2_with fail
  rw[<-ow.o, <-Ms.o];rw[<-qL.o];refine(eb b b [] ⟨#[68,105,103,101,115,116,32]⟩ w4 XC.o ag ab).mono ?_;rintro e w5⟨rfl,D6,zV,_⟩;have hs5:=zV.size;obtain⟨d,hd⟩:∃d,d=w5.heap.size:=⟨_,rfl⟩;obtain⟨w6,yU⟩:∃w6,w6=w5.alloc (.cells #[.bool false] 4):=⟨_,rfl⟩;have BA:=O (show b<d from ab);have aco:Below w2.heap.size w2 w6:=by rw[yU];exact(Ub.o.trans (tF.o▸zV)).alloc (by have:=Ub.o.size;omega) _
  have S0:=O (show St b d 0 w2 [] w6 from⟨by rw[yU];exact D6.i_ ((ae aX w5).alloc _),by rw[yU,hd];exact aC _ _,aco,by rw[yU];simp;omega,az _,ag⟩);have Pe:=O yU;have AW:=O hd;clear c0 c1 c2 c3 c4 c5 c6 c7 d0 d1 D6 zV yU;obtain⟨⟨c0,c1,c2,c3,c4,c5,c6,c7⟩,d0,d1⟩:=HC.o w6 S0.o.qQ;rw[Pe.o]at c0 c1 c2 c3 c4 c5 c6 c7 d0 d1;go_wp2_with fail
  rw[<-AW.o, <-Pe.o, <-qL.o];refine(lp b d 0 w2 _ _ NC _ user true rfl tF.o BA.o ag ag ab S0.o).mono ?_;rintro e W1⟨rfl,s1⟩;obtain⟨L1,l1,s1⟩:=s1.named;have S1:=O s1;have E1:=O l1;clear c0 c1 c2 c3 c4 c5 c6 c7 d0 d1 s1 l1;obtain⟨⟨c0,c1,c2,c3,c4,c5,c6,c7⟩,d0,d1⟩:=HC.o W1 S1.o.qQ;go_wp2_with fail
  rw[<-AW.o, <-qL.o];refine(lp b d 1 w2 _ _ vh _ aO true rfl tF.o BA.o ag ag ab S1.o).mono ?_;rintro e W2⟨rfl,s2⟩;obtain⟨L2,l2,s2⟩:=s2.named;have S2:=O s2;have E2:=O l2;clear c0 c1 c2 c3 c4 c5 c6 c7 d0 d1 s2 l2;obtain⟨⟨c0,c1,c2,c3,c4,c5,c6,c7⟩,d0,d1⟩:=HC.o W2 S2.o.qQ;go_wp2_with fail
  rw[<-AW.o, <-qL.o];refine(lp b d 2 w2 _ _ vn _ bC true rfl tF.o BA.o ag ag ab S2.o).mono ?_;rintro e W3⟨rfl,s3⟩;obtain⟨L3,l3,s3⟩:=s3.named;have S3:=O s3;have E3:=O l3;clear c0 c1 c2 c3 c4 c5 c6 c7 d0 d1 s3 l3;obtain⟨⟨c0,c1,c2,c3,c4,c5,c6,c7⟩,d0,d1⟩:=HC.o W3 S3.o.qQ;go_wp2_with fail
  rw[<-AW.o, <-qL.o];refine(lp b d 3 w2 _ _ WG _ target true rfl tF.o BA.o ag ag ab S3.o).mono ?_;rintro e W4⟨rfl,s4⟩;obtain⟨L4,l4,s4⟩:=s4.named;have S4:=O s4;have E4:=O l4;clear c0 c1 c2 c3 c4 c5 c6 c7 d0 d1 s4 l4;obtain⟨⟨c0,c1,c2,c3,c4,c5,c6,c7⟩,d0,d1⟩:=HC.o W4 S4.o.qQ;go_wp2_with fail
  refine(acn.o W4 (rm.o _ S4.o.qQ)).mono ?_;rintro e wr⟨rfl,cR⟩;have S5:=O (S4.o.Jj cR tF.o);clear c0 c1 c2 c3 c4 c5 c6 c7 d0 d1 cR;obtain⟨⟨c0,c1,c2,c3,c4,c5,c6,c7⟩,d0,d1⟩:=HC.o wr S5.o.qQ;go_wp2_with fail
  rw[<-AW.o, <-qL.o];refine(lp b d 4 w2 _ _ ND _ (nO x) true rfl tF.o BA.o ag ag ab S5.o).mono ?_;rintro e W6⟨rfl,s6⟩;obtain⟨L6,l6,s6⟩:=s6.named;have S6:=O s6;have E6:=O l6;clear c0 c1 c2 c3 c4 c5 c6 c7 d0 d1 s6 l6;obtain⟨⟨c0,c1,c2,c3,c4,c5,c6,c7⟩,d0,d1⟩:=HC.o W6 S6.o.qQ;go_wp2_with fail
  refine(NAME.o W6).mono ?_;rintro e wn⟨rfl,EP⟩;have S7:=O (S6.o.Jj EP tF.o);clear c0 c1 c2 c3 c4 c5 c6 c7 d0 d1 EP;obtain⟨⟨c0,c1,c2,c3,c4,c5,c6,c7⟩,d0,d1⟩:=HC.o wn S7.o.qQ;go_wp2_with fail
  rw[<-AW.o, <-qL.o];refine(lp b d 5 w2 _ _ yn _ _ false rfl tF.o BA.o ag ag (by have:=HNL.o;omega) S7.o).mono ?_;rintro e W8⟨rfl,s8⟩;obtain⟨L8,l8,s8⟩:=s8.named;have S8:=O s8;have E8:=O l8;clear c0 c1 c2 c3 c4 c5 c6 c7 d0 d1 s8 l8;obtain⟨⟨c0,c1,c2,c3,c4,c5,c6,c7⟩,d0,d1⟩:=HC.o W8 S8.o.qQ;cases cy with
  |false =>
   by_cases ho:cj.data.toList.isEmpty=true
   ·have o1:cj.toList=[]:=by rw[aN];exact gj.1 ho
    have Of:Co cj.data.toList=[]:=by unfold Co;rw[aB ho]
    have o2:(cj.toList== [])=true:=by rw[o1];rfl
    have o3:cj.toList.isEmpty=true:=by rw[o1];rfl
    skip
    have Dg:=pq S8.o.hd;rw[AW.o]at Dg;have AM:=O (show dg.items=L8 by rw[zC.o,E8.o,E6.o,E4.o,E3.o,E2.o,E1.o,HX.o];exact(show vC _ _ _ _ _ _++(Cn _ _++(Sv _ _ _++Co cj.data.toList))=_ by rw[Of];rfl));cases mq:xD L8 with
    |true =>
     have BI:=O (show dg.fair=false by have hb:=jD dg;rw[AM.o,mq]at hb;simpa using hb.symm);rw[mq]at Dg;go_wp2;go_ret2;exact⟨rm.o _ S8.o.qQ,Or.inl ⟨zC.o▸BI.o,_,_,rfl⟩⟩
    |false =>
     rw[mq]at Dg;have si:=O (jE (d:=dg) (by rw[AM.o];exact mq));have Uc:=O (jF si.o);go_wp2_with fail
     rw[<-qL.o];refine(Builder_String_any_k b b (vB L8) W8 (by have h:=S8.o.hb;exact h) (S8.o.sz)).mono ?_;rintro e wz⟨rfl,_,KV,_⟩;go_wp2;go_ret2;refine⟨rm.o _ ((S8.o.qQ).trans (tF.o▸KV)),Or.inr ⟨ag,by rw[HX.o],by rw[HX.o];exact l_,by rw[HX.o];exact sH,zC.o▸si.o,?_⟩⟩;rw[<-zC.o, <-Uc.o,AM.o];rfl
   ·have DL:cj.data.toList.isEmpty=false:=by simpa using ho
    have Of:Co cj.data.toList=[(lO,cj.data.toList,true)]:=by unfold Co;rw[ay ho]
    have o1:¬cj.toList=[]:=by rw[aN];intro h;rw[h]at DL;cases DL
    have o2:(cj.toList== [])=false:=aL.2 o1;have o3:cj.toList.isEmpty=false:=by rw[aN];exact DL
    go_wp2_with fail
    rw[<-AW.o, <-qL.o];refine(lp b d 6 w2 _ _ lO _ cj true rfl tF.o BA.o ag ag ab S8.o).mono ?_;rintro e W9⟨rfl,s9⟩;obtain⟨L9,l9,s9⟩:=s9.named;have S9:=O s9;have E9:=O l9;clear c0 c1 c2 c3 c4 c5 c6 c7 d0 d1 s9 l9;obtain⟨⟨c0,c1,c2,c3,c4,c5,c6,c7⟩,d0,d1⟩:=HC.o W9 S9.o.qQ;have Dg:=pq S9.o.hd;rw[AW.o]at Dg
    have AM:=O (show dg.items=L9 by rw[zC.o,E9.o,E8.o,E6.o,E4.o,E3.o,E2.o,E1.o,HX.o];exact(show vC _ _ _ _ _ _++(Cn _ _++(Sv _ _ _++Co cj.data.toList))=_ by rw[Of];rfl));cases mq:xD L9 with
    |true =>
     have BI:=O (show dg.fair=false by have hb:=jD dg;rw[AM.o,mq]at hb;simpa using hb.symm);rw[mq]at Dg;go_wp2;go_ret2;exact⟨rm.o _ S9.o.qQ,Or.inl ⟨zC.o▸BI.o,_,_,rfl⟩⟩
    |false =>
     rw[mq]at Dg;have si:=O (jE (d:=dg) (by rw[AM.o];exact mq));have Uc:=O (jF si.o);go_wp2_with fail
     rw[<-qL.o];refine(Builder_String_any_k b b (vB L9) W9 (by have h:=S9.o.hb;exact h) (S9.o.sz)).mono ?_;rintro e wz⟨rfl,_,KV,_⟩;go_wp2;go_ret2;refine⟨rm.o _ ((S9.o.qQ).trans (tF.o▸KV)),Or.inr ⟨ag,by rw[HX.o],by rw[HX.o];exact l_,by rw[HX.o];exact sH,zC.o▸si.o,?_⟩⟩;rw[<-zC.o, <-Uc.o,AM.o];rfl
  |true =>
   go_wp2_with fail
   rw[<-AW.o, <-qL.o];refine(lp b d 6 w2 _ _ Bw _ bz true rfl tF.o BA.o ag ag ab S8.o).mono ?_;rintro e W10⟨rfl,s10⟩;obtain⟨L10,l10,s10⟩:=s10.named;have V4:=O s10;have E10:=O l10;clear c0 c1 c2 c3 c4 c5 c6 c7 d0 d1 s10 l10;obtain⟨⟨c0,c1,c2,c3,c4,c5,c6,c7⟩,d0,d1⟩:=HC.o W10 V4.o.qQ;by_cases ho:cj.data.toList.isEmpty=true
   ·have o1:cj.toList=[]:=by rw[aN];exact gj.1 ho
    have Of:Co cj.data.toList=[]:=by unfold Co;rw[aB ho]
    have o2:(cj.toList== [])=true:=by rw[o1];rfl
    have o3:cj.toList.isEmpty=true:=by rw[o1];rfl
    skip
    have Dg:=pq V4.o.hd;rw[AW.o]at Dg;have AM:=O (show dg.items=L10 by rw[zC.o,E10.o,E8.o,E6.o,E4.o,E3.o,E2.o,E1.o,HX.o];exact(show vC _ _ _ _ _ _++(Cn _ _++(Sv _ _ _++Co cj.data.toList))=_ by rw[Of];rfl));cases mq:xD L10 with
    |true =>
     have BI:=O (show dg.fair=false by have hb:=jD dg;rw[AM.o,mq]at hb;simpa using hb.symm);rw[mq]at Dg;go_wp2;go_ret2;exact⟨rm.o _ V4.o.qQ,Or.inl ⟨zC.o▸BI.o,_,_,rfl⟩⟩
    |false =>
     rw[mq]at Dg;have si:=O (jE (d:=dg) (by rw[AM.o];exact mq));have Uc:=O (jF si.o);go_wp2_with fail
     rw[<-qL.o];refine(Builder_String_any_k b b (vB L10) W10 (by have h:=V4.o.hb;exact h) (V4.o.sz)).mono ?_;rintro e wz⟨rfl,_,KV,_⟩;go_wp2;go_ret2;refine⟨rm.o _ ((V4.o.qQ).trans (tF.o▸KV)),Or.inr ⟨ag,by rw[HX.o],by rw[HX.o];exact l_,by rw[HX.o];exact sH,zC.o▸si.o,?_⟩⟩;rw[<-zC.o, <-Uc.o,AM.o];rfl
   ·have DL:cj.data.toList.isEmpty=false:=by simpa using ho
    have Of:Co cj.data.toList=[(lO,cj.data.toList,true)]:=by unfold Co;rw[ay ho]
    have o1:¬cj.toList=[]:=by rw[aN];intro h;rw[h]at DL;cases DL
    have o2:(cj.toList== [])=false:=aL.2 o1;have o3:cj.toList.isEmpty=false:=by rw[aN];exact DL
    go_wp2_with fail
    rw[<-AW.o, <-qL.o];refine(lp b d 7 w2 _ _ lO _ cj true rfl tF.o BA.o ag ag ab V4.o).mono ?_;rintro e W11⟨rfl,X_⟩;obtain⟨L11,l11,X_⟩:=X_.named;have X':=O X_;have E11:=O l11;clear c0 c1 c2 c3 c4 c5 c6 c7 d0 d1 X_ l11;obtain⟨⟨c0,c1,c2,c3,c4,c5,c6,c7⟩,d0,d1⟩:=HC.o W11 X'.o.qQ;have Dg:=pq X'.o.hd;rw[AW.o]at Dg
    have AM:=O (show dg.items=L11 by rw[zC.o,E11.o,E10.o,E8.o,E6.o,E4.o,E3.o,E2.o,E1.o,HX.o];exact(show vC _ _ _ _ _ _++(Cn _ _++(Sv _ _ _++Co cj.data.toList))=_ by rw[Of];rfl));cases mq:xD L11 with
    |true =>
     have BI:=O (show dg.fair=false by have hb:=jD dg;rw[AM.o,mq]at hb;simpa using hb.symm);rw[mq]at Dg;go_wp2;go_ret2;exact⟨rm.o _ X'.o.qQ,Or.inl ⟨zC.o▸BI.o,_,_,rfl⟩⟩
    |false =>
     rw[mq]at Dg;have si:=O (jE (d:=dg) (by rw[AM.o];exact mq));have Uc:=O (jF si.o);go_wp2_with fail
     rw[<-qL.o];refine(Builder_String_any_k b b (vB L11) W11 (by have h:=X'.o.hb;exact h) (X'.o.sz)).mono ?_;rintro e wz⟨rfl,_,KV,_⟩;go_wp2;go_ret2;refine⟨rm.o _ ((X'.o.qQ).trans (tF.o▸KV)),Or.inr ⟨ag,by rw[HX.o],by rw[HX.o];exact l_,by rw[HX.o];exact sH,zC.o▸si.o,?_⟩⟩;rw[<-zC.o, <-Uc.o,AM.o];rfl
theorem J1(fI:Int)(aO bC cj eZ user pass method target body bz:ai)(cy dr:Bool)(dom:Value)(k:Nat)(w:World)(ec:dom.oneCell'=true)
  (hq:eZ=⟨#[97,117,116,104]⟩\/eZ=⟨#[97,117,116,104,45,105,110,116]⟩)(hs:fI=2\/fI=3)(l_:1<=k)(sH:k<=4294967295)
  (x1:aO.size<=5000)(x2:bC.size<=5000)(x3:cj.size<=5000)(x4:user.size<=5000)(x5:pass.size<=5000)(x6:method.size<=5000)(x7:target.size<=5000)(x8:body.size<=5000)(x9:bz.size<=5000)
  (LD:oz w 9 .u8 Rf)(hh:sK fI w) :
  aE 72 #[.agg #[.int .i64 fI,.string aO,.string bC,.string cj,.bool cy,.string eZ,.bool dr,dom],.agg #[.string user,.string pass],.string method,.string target,.string body,.string bz,.int .i64 (k:Int)] w (Gg fI cj ⟨decide (fI=3),cy,aO,bC,eZ,user,pass,method,target,body,bz,k⟩ k w):=by
 obtain⟨x,hx⟩:∃x:nD,x=⟨decide (fI=3),cy,aO,bC,eZ,user,pass,method,target,body,bz,k⟩:=⟨_,rfl⟩;have xq:eZ.size<=5000:=by rcases hq with h|h<;>rw[h]<;>decide
 have oO:x.Small:=by rw[hx];exact⟨by show aO.size<=_;omega,by show bC.size<=_;omega,by show eZ.size<=_;omega,by show user.size<=_;omega,by show pass.size<=_;omega,by show method.size<=_;omega,by show target.size<=_;omega,by show body.size<=_;omega,by show bz.size<=_;omega,by show k<_;omega⟩
 rw[<-hx];have acn:=O (show∀U,Fr aX w U->aE 109 #[.agg #[.int .i64 fI,.string aO,.string bC,.string cj,.bool cy,.string eZ,.bool dr,dom],.agg #[.string user,.string pass],.string method,.string target,.string body,.string bz,.int .i64 (k:Int)] U fun e w'=>e=.returned (.string (nO x))/\Fr aX U w' from fun U hU=>by
  have:=yJ ⟨fI,aO,bC,cj,cy,eZ,dr,dom⟩ x U oO (by rw[hx]) (by rw[hx]) (by rw[hx]) (by rw[hx]) (by rw[hx]) ec (LD.fr hU) (hh.fr hU);rw[hx]at this ⊢;exact this)
 have Z7:=O (show∀U,Fr aX w U->aE 111 #[.int .i64 (k:Int)] U fun e w'=>e=.returned (.string (bA (jr k)))/\Fr aX U w' from fun U hU=>qO k U ab (LD.fr hU));have NAME:=O (fun U=>I_ fI aO bC cj eZ cy dr dom U);have hrs:=Cz x;have HX:=O hx;have HQ:=O hq;have HS:=O hs;clear LD hh oO
 obtain⟨w2,eC⟩:∃w2,w2=(w.alloc (.cells #[.int .i64 fI,.string aO,.string bC,.string cj,.bool cy,.string eZ,.bool dr,dom] 127)).alloc (.cells #[.string user,.string pass] 31):=⟨_,rfl⟩;have dF:Fr aX w w2:=by rw[eC];exact((ae aX w).alloc _).alloc _
 have wG:w2.heap.size=w.heap.size+2:=by rw[eC];simp
 have k1:w2.heap[w.heap.size]?=some (.cells #[.int .i64 fI,.string aO,.string bC,.string cj,.bool cy,.string eZ,.bool dr,dom] 127 (0,0)):=by rw[eC];exact((ae aX _).alloc _).keep (aC _ _) id
 have k2:w2.heap[w.heap.size+1]?=some (.cells #[.string user,.string pass] 31 (0,0)):=by
  have h:=aC (w.alloc (.cells #[.int .i64 fI,.string aO,.string bC,.string cj,.bool cy,.string eZ,.bool dr,dom] 127)) (.cells #[.string user,.string pass] 31);rw[bK]at h;rw[eC];exact h
 have HC:=O (show∀U,Below w2.heap.size w2 U->(U.cell? ⟨w.heap.size,0,none⟩=some (.int .i64 fI)/\U.cell? ⟨w.heap.size,1,none⟩=some (.string aO)/\U.cell? ⟨w.heap.size,2,none⟩=some (.string bC)/\U.cell? ⟨w.heap.size,3,none⟩=some (.string cj)/\U.cell? ⟨w.heap.size,4,none⟩=some (.bool cy)/\U.cell? ⟨w.heap.size,5,none⟩=some (.string eZ)/\U.cell? ⟨w.heap.size,6,none⟩=some (.bool dr)/\U.cell? ⟨w.heap.size,7,none⟩=some dom)/\U.cell? ⟨w.heap.size+1,0,none⟩=some (.string user)/\U.cell? ⟨w.heap.size+1,1,none⟩=some (.string pass)from fun U hU=>by
  have j1:=(hU.block w.heap.size ab).trans k1;have j2:=(hU.block (w.heap.size+1) ab).trans k2;exact⟨by simp[World.cell?,j1],by simp[World.cell?,j2]⟩)
 have rm:=O (show∀U,Below w2.heap.size w2 U->Fr aX w U from fun U hU=>dF.trans (fe hU));obtain⟨b,hb⟩:∃b,b=w2.heap.size:=⟨_,rfl⟩;obtain⟨w4,qf⟩:∃w4,w4=w2.alloc (.cells #[.pointer none,.slice none 0 0] 189):=⟨_,rfl⟩;have uP:vr b b [] w4:=by rw[qf,hb];exact Lib.IsBuilderF.of (EB.new w2)
 have hB4:Below w2.heap.size w2 w4:=by rw[qf];exact(Below.refl _ w2).alloc (az _) _
 have ZQ:w4.heap.size=b+1:=by rw[qf,hb];simp
 have ow:=O eC;have Ms:=O qf;have hkk:(k:Int)<=4294967295:=ab;have VN:¬(k:Int)<1:=ab;have VY:¬(4294967295:Int)<(k:Int):=ab;obtain⟨⟨c0,c1,c2,c3,c4,c5,c6,c7⟩,d0,d1⟩:=HC.o w2 (Below.refl _ _);rw[eC]at c0 c1 c2 c3 c4 c5 c6 c7 d0 d1;clear qf hx hq dF k1 k2;have tF:=O hb;have qL:=O (show b=w.heap.size+1+1 from ab);have HB:=O hb.symm;have XC:=O uP;have Ub:=O hB4
 have HNL:=O (show(bA (oW fI cy)).size<=12 by
  show(oW fI cy).length<=12;unfold oW;split<;>cases cy<;>decide)
 have D1:=O (show(bA (jr k)).size<=8 by show(jr k).length<=8;unfold jr;rw[nC];exact az _);clear uP hB4;obtain⟨dg,Zi⟩:∃dg,dg=yK fI cj x:=⟨_,rfl⟩;have zC:=O Zi;clear Zi;rcases HQ.o with hq0|hq0<;>rcases HS.o with hs0|hs0<;>subst hq0<;>subst hs0
 all_goals
  go_enter func72,ntmps72;go_wp2_with fail
  rw[<-ow.o, <-Ms.o];rw[<-qL.o];refine(eb b b [] ⟨#[68,105,103,101,115,116,32]⟩ w4 XC.o ag ab).mono ?_;rintro e w5⟨rfl,D6,zV,_⟩;have hs5:=zV.size;obtain⟨d,hd⟩:∃d,d=w5.heap.size:=⟨_,rfl⟩;obtain⟨w6,yU⟩:∃w6,w6=w5.alloc (.cells #[.bool false] 4):=⟨_,rfl⟩;have BA:=O (show b<d from ab);have aco:Below w2.heap.size w2 w6:=by rw[yU];exact(Ub.o.trans (tF.o▸zV)).alloc (by have:=Ub.o.size;omega) _
  have S0:=O (show St b d 0 w2 [] w6 from⟨by rw[yU];exact D6.i_ ((ae aX w5).alloc _),by rw[yU,hd];exact aC _ _,aco,by rw[yU];simp;omega,az _,ag⟩);have Pe:=O yU;have AW:=O hd;clear c0 c1 c2 c3 c4 c5 c6 c7 d0 d1 D6 zV yU;obtain⟨⟨c0,c1,c2,c3,c4,c5,c6,c7⟩,d0,d1⟩:=HC.o w6 S0.o.qQ;rw[Pe.o]at c0 c1 c2 c3 c4 c5 c6 c7 d0 d1;go_wp2_with fail
  rw[<-AW.o, <-Pe.o, <-qL.o];refine(lp b d 0 w2 _ _ NC _ user true rfl tF.o BA.o ag ag ab S0.o).mono ?_;rintro e W1⟨rfl,s1⟩;obtain⟨L1,l1,s1⟩:=s1.named;have S1:=O s1;have E1:=O l1;clear c0 c1 c2 c3 c4 c5 c6 c7 d0 d1 s1 l1;obtain⟨⟨c0,c1,c2,c3,c4,c5,c6,c7⟩,d0,d1⟩:=HC.o W1 S1.o.qQ;go_wp2_with fail
  rw[<-AW.o, <-qL.o];refine(lp b d 1 w2 _ _ vh _ aO true rfl tF.o BA.o ag ag ab S1.o).mono ?_;rintro e W2⟨rfl,s2⟩;obtain⟨L2,l2,s2⟩:=s2.named;have S2:=O s2;have E2:=O l2;clear c0 c1 c2 c3 c4 c5 c6 c7 d0 d1 s2 l2;obtain⟨⟨c0,c1,c2,c3,c4,c5,c6,c7⟩,d0,d1⟩:=HC.o W2 S2.o.qQ;go_wp2_with fail
  rw[<-AW.o, <-qL.o];refine(lp b d 2 w2 _ _ vn _ bC true rfl tF.o BA.o ag ag ab S2.o).mono ?_;rintro e W3⟨rfl,s3⟩;obtain⟨L3,l3,s3⟩:=s3.named;have S3:=O s3;have E3:=O l3;clear c0 c1 c2 c3 c4 c5 c6 c7 d0 d1 s3 l3;obtain⟨⟨c0,c1,c2,c3,c4,c5,c6,c7⟩,d0,d1⟩:=HC.o W3 S3.o.qQ;go_wp2_with fail
  rw[<-AW.o, <-qL.o];refine(lp b d 3 w2 _ _ WG _ target true rfl tF.o BA.o ag ag ab S3.o).mono ?_;rintro e W4⟨rfl,s4⟩;obtain⟨L4,l4,s4⟩:=s4.named;have S4:=O s4;have E4:=O l4;clear c0 c1 c2 c3 c4 c5 c6 c7 d0 d1 s4 l4;obtain⟨⟨c0,c1,c2,c3,c4,c5,c6,c7⟩,d0,d1⟩:=HC.o W4 S4.o.qQ;go_wp2_with fail
  refine(acn.o W4 (rm.o _ S4.o.qQ)).mono ?_;rintro e wr⟨rfl,cR⟩;have S5:=O (S4.o.Jj cR tF.o);clear c0 c1 c2 c3 c4 c5 c6 c7 d0 d1 cR;obtain⟨⟨c0,c1,c2,c3,c4,c5,c6,c7⟩,d0,d1⟩:=HC.o wr S5.o.qQ;go_wp2_with fail
  rw[<-AW.o, <-qL.o];refine(lp b d 4 w2 _ _ ND _ (nO x) true rfl tF.o BA.o ag ag ab S5.o).mono ?_;rintro e W6⟨rfl,s6⟩;obtain⟨L6,l6,s6⟩:=s6.named;have S6:=O s6;have E6:=O l6;clear c0 c1 c2 c3 c4 c5 c6 c7 d0 d1 s6 l6;obtain⟨⟨c0,c1,c2,c3,c4,c5,c6,c7⟩,d0,d1⟩:=HC.o W6 S6.o.qQ;go_wp2_with fail
  refine(NAME.o W6).mono ?_;rintro e wn⟨rfl,EP⟩;have S7:=O (S6.o.Jj EP tF.o);clear c0 c1 c2 c3 c4 c5 c6 c7 d0 d1 EP;obtain⟨⟨c0,c1,c2,c3,c4,c5,c6,c7⟩,d0,d1⟩:=HC.o wn S7.o.qQ;go_wp2_with fail
  rw[<-AW.o, <-qL.o];refine(lp b d 5 w2 _ _ yn _ _ false rfl tF.o BA.o ag ag (by have:=HNL.o;omega) S7.o).mono ?_;rintro e W8⟨rfl,s8⟩;obtain⟨L8,l8,s8⟩:=s8.named;have S8:=O s8;have E8:=O l8;clear c0 c1 c2 c3 c4 c5 c6 c7 d0 d1 s8 l8;obtain⟨⟨c0,c1,c2,c3,c4,c5,c6,c7⟩,d0,d1⟩:=HC.o W8 S8.o.qQ;go_wp2_with fail
  rw[<-AW.o, <-qL.o];refine(lp b d 6 w2 _ _ Iu _ _ false rfl tF.o BA.o ag ag ag S8.o).mono ?_;rintro e W9⟨rfl,s9⟩;obtain⟨L9,l9,s9⟩:=s9.named;have S9:=O s9;have E9:=O l9;clear c0 c1 c2 c3 c4 c5 c6 c7 d0 d1 s9 l9;obtain⟨⟨c0,c1,c2,c3,c4,c5,c6,c7⟩,d0,d1⟩:=HC.o W9 S9.o.qQ;go_wp2_with fail
  refine(Z7.o W9 (rm.o _ S9.o.qQ)).mono ?_;rintro e wc⟨rfl,hfc⟩;have V4:=O (S9.o.Jj hfc tF.o);clear c0 c1 c2 c3 c4 c5 c6 c7 d0 d1 hfc;obtain⟨⟨c0,c1,c2,c3,c4,c5,c6,c7⟩,d0,d1⟩:=HC.o wc V4.o.qQ;go_wp2_with fail
  rw[<-AW.o, <-qL.o];refine(lp b d 7 w2 _ _ nNc _ (bA (jr k)) false rfl tF.o BA.o ag ag (by have:=D1.o;omega) V4.o).mono ?_;rintro e W11⟨rfl,X_⟩;obtain⟨L11,l11,X_⟩:=X_.named;have X':=O X_;have E11:=O l11;clear c0 c1 c2 c3 c4 c5 c6 c7 d0 d1 X_ l11;obtain⟨⟨c0,c1,c2,c3,c4,c5,c6,c7⟩,d0,d1⟩:=HC.o W11 X'.o.qQ;go_wp2_with fail
  rw[<-AW.o, <-qL.o];refine(lp b d 8 w2 _ _ Bw _ bz true rfl tF.o BA.o ag ag ab X'.o).mono ?_;rintro e W12⟨rfl,s12⟩;obtain⟨L12,l12,s12⟩:=s12.named;have S12:=O s12;have E12:=O l12;clear c0 c1 c2 c3 c4 c5 c6 c7 d0 d1 s12 l12;obtain⟨⟨c0,c1,c2,c3,c4,c5,c6,c7⟩,d0,d1⟩:=HC.o W12 S12.o.qQ;by_cases ho:cj.data.toList.isEmpty=true
  ·have o1:cj.toList=[]:=by rw[aN];exact gj.1 ho
   have Of:Co cj.data.toList=[]:=by unfold Co;rw[aB ho]
   have o2:(cj.toList== [])=true:=by rw[o1];rfl
   have o3:cj.toList.isEmpty=true:=by rw[o1];rfl
   skip
   have Dg:=pq S12.o.hd;rw[AW.o]at Dg;have AM:=O (show dg.items=L12 by rw[zC.o,E12.o,E11.o,E9.o,E8.o,E6.o,E4.o,E3.o,E2.o,E1.o,HX.o];exact(show vC _ _ _ _ _ _++(Cn _ _++(Sv _ _ _++Co cj.data.toList))=_ by rw[Of];rfl));cases mq:xD L12 with
   |true =>
    have BI:=O (show dg.fair=false by have hb:=jD dg;rw[AM.o,mq]at hb;simpa using hb.symm);rw[mq]at Dg;go_wp2;go_ret2;exact⟨rm.o _ S12.o.qQ,Or.inl ⟨zC.o▸BI.o,_,_,rfl⟩⟩
   |false =>
    rw[mq]at Dg;have si:=O (jE (d:=dg) (by rw[AM.o];exact mq));have Uc:=O (jF si.o);go_wp2_with fail
    rw[<-qL.o];refine(Builder_String_any_k b b (vB L12) W12 (by have h:=S12.o.hb;exact h) (S12.o.sz)).mono ?_;rintro e wz⟨rfl,_,KV,_⟩;go_wp2;go_ret2;refine⟨rm.o _ ((S12.o.qQ).trans (tF.o▸KV)),Or.inr ⟨ag,by rw[HX.o],by rw[HX.o];exact l_,by rw[HX.o];exact sH,zC.o▸si.o,?_⟩⟩;rw[<-zC.o, <-Uc.o,AM.o];rfl
  ·have DL:cj.data.toList.isEmpty=false:=by simpa using ho
   have Of:Co cj.data.toList=[(lO,cj.data.toList,true)]:=by unfold Co;rw[ay ho]
   have o1:¬cj.toList=[]:=by rw[aN];intro h;rw[h]at DL;cases DL
   have o2:(cj.toList== [])=false:=aL.2 o1;have o3:cj.toList.isEmpty=false:=by rw[aN];exact DL
   go_wp2_with fail
   rw[<-AW.o, <-qL.o];refine(lp b d 9 w2 _ _ lO _ cj true rfl tF.o BA.o ag ag ab S12.o).mono ?_;rintro e W13⟨rfl,s13⟩;obtain⟨L13,l13,s13⟩:=s13.named;have S13:=O s13;have E13:=O l13;clear c0 c1 c2 c3 c4 c5 c6 c7 d0 d1 s13 l13;obtain⟨⟨c0,c1,c2,c3,c4,c5,c6,c7⟩,d0,d1⟩:=HC.o W13 S13.o.qQ;have Dg:=pq S13.o.hd;rw[AW.o]at Dg
   have AM:=O (show dg.items=L13 by rw[zC.o,E13.o,E12.o,E11.o,E9.o,E8.o,E6.o,E4.o,E3.o,E2.o,E1.o,HX.o];exact(show vC _ _ _ _ _ _++(Cn _ _++(Sv _ _ _++Co cj.data.toList))=_ by rw[Of];rfl));cases mq:xD L13 with
   |true =>
    have BI:=O (show dg.fair=false by have hb:=jD dg;rw[AM.o,mq]at hb;simpa using hb.symm);rw[mq]at Dg;go_wp2;go_ret2;exact⟨rm.o _ S13.o.qQ,Or.inl ⟨zC.o▸BI.o,_,_,rfl⟩⟩
   |false =>
    rw[mq]at Dg;have si:=O (jE (d:=dg) (by rw[AM.o];exact mq));have Uc:=O (jF si.o);go_wp2_with fail
    rw[<-qL.o];refine(Builder_String_any_k b b (vB L13) W13 (by have h:=S13.o.hb;exact h) (S13.o.sz)).mono ?_;rintro e wz⟨rfl,_,KV,_⟩;go_wp2;go_ret2;refine⟨rm.o _ ((S13.o.qQ).trans (tF.o▸KV)),Or.inr ⟨ag,by rw[HX.o],by rw[HX.o];exact l_,by rw[HX.o];exact sH,zC.o▸si.o,?_⟩⟩;rw[<-zC.o, <-Uc.o,AM.o];rfl
def BJ(fI:Int)(cj:ai)(x:nD)(n:Int):Prop:=((fI=2\/fI=3)/\(x.eZ.data.toList=[]\/x.eZ.data.toList=lN\/x.eZ.data.toList=pM))/\(1<=n/\n<=4294967295)/\(yK fI cj x).fair=true
def oG(fI:Int)(cj:ai)(x:nD)(n:Int)(w:World)(e:Ending)(w':World):Prop :=
 Fr aX w w'/\((¬BJ fI cj x n/\∃t v,e=.returned (.tuple #[.string ⟨#[]⟩,.iface t v]))\/(BJ fI cj x n/\e=.returned (.tuple #[.string (bA (yK fI cj x).text),.nilIface])))
theorem P9(fI:Int)(aO bC cj eZ user pass method target body bz:ai)(cy dr:Bool)(dom:Value)(n:Int)(w:World)(ec:dom.oneCell'=true)
  (x1:aO.size<=5000)(x2:bC.size<=5000)(x3:cj.size<=5000)(x4:user.size<=5000)(x5:pass.size<=5000)(x6:method.size<=5000)(x7:target.size<=5000)(x8:body.size<=5000)(x9:bz.size<=5000)
  (LD:oz w 9 .u8 Rf)(hh:sK fI w) :
  aE 72 #[.agg #[.int .i64 fI,.string aO,.string bC,.string cj,.bool cy,.string eZ,.bool dr,dom],.agg #[.string user,.string pass],.string method,.string target,.string body,.string bz,.int .i64 n] w (oG fI cj ⟨decide (fI=3),cy,aO,bC,eZ,user,pass,method,target,body,bz,n.toNat⟩ n w):=by
 have xU:∀l:Bs,eZ.toList=l->eZ=⟨l.toArray⟩:=fun l h=>Go.WideShapes.bytes_inj (by rw[<-aN,h]);by_cases hsq:(fI=2\/fI=3)/\(eZ.toList=[]\/eZ.toList=[97,117,116,104]\/eZ.toList=[97,117,116,104,45,105,110,116])
 ·obtain⟨hs,hq⟩:=hsq;by_cases hn:1<=n/\n<=4294967295
  ·obtain⟨Hm,BD⟩:=hn;obtain⟨k,rfl⟩:∃k:Nat,n=(k:Int):=⟨n.toNat,ab⟩;have key:aE 72 #[.agg #[.int .i64 fI,.string aO,.string bC,.string cj,.bool cy,.string eZ,.bool dr,dom],.agg #[.string user,.string pass],.string method,.string target,.string body,.string bz,.int .i64 (k:Int)] w (Gg fI cj ⟨decide (fI=3),cy,aO,bC,eZ,user,pass,method,target,body,bz,k⟩ k w):=by
    rcases hq with hq|hq|hq
    ·exact Ua fI aO bC cj eZ user pass method target body bz cy dr dom k w ec (xU _ hq) hs ab ab x1 x2 x3 x4 x5 x6 x7 x8 x9 LD hh
    ·exact J1 fI aO bC cj eZ user pass method target body bz cy dr dom k w ec (Or.inl (xU _ hq)) hs ab ab x1 x2 x3 x4 x5 x6 x7 x8 x9 LD hh
    ·exact J1 fI aO bC cj eZ user pass method target body bz cy dr dom k w ec (Or.inr (xU _ hq)) hs ab ab x1 x2 x3 x4 x5 x6 x7 x8 x9 LD hh
   refine key.mono ?_;rintro e w'⟨hf,hm⟩;refine⟨hf,?_⟩;rcases hm with ⟨hm,hr⟩|⟨h1,h2,h3,h4,h5,h6⟩
   ·exact Or.inl ⟨fun hg=>(by have hg:=hg.2.2;rw[Int.toNat_natCast,hm]at hg;cases hg),hr⟩
   ·refine Or.inr ⟨⟨⟨h1,?_⟩,⟨ab,ab⟩,h5⟩,h6⟩;show eZ.data.toList=[]\/eZ.data.toList=lN\/eZ.data.toList=pM;rw[<-aN];exact hq
  ·have Ga:n<1\/4294967295<n:=ab;have hng:∀x,¬BJ fI cj x n:=fun x h=>hn h.2.1;clear hn;have HG:∀t v (w':World),Fr aX w w'->oG fI cj ⟨decide (fI=3),cy,aO,bC,eZ,user,pass,method,target,body,bz,n.toNat⟩ n w (.returned (.tuple #[.string ⟨#[]⟩,.iface t v])) w':=fun t v w' hf=>⟨hf,Or.inl ⟨hng _,t,v,rfl⟩⟩;have Z5:=O HG;clear HG hng
   generalize oG fI cj ⟨decide (fI=3),cy,aO,bC,eZ,user,pass,method,target,body,bz,n.toNat⟩ n w=Q at *
   have dF:Fr aX w ((w.alloc (.cells #[.int .i64 fI,.string aO,.string bC,.string cj,.bool cy,.string eZ,.bool dr,dom] 127)).alloc (.cells #[.string user,.string pass] 31)):=((ae aX w).alloc _).alloc _;have fR:=O dF;clear dF;rcases Ga with hn|hn
   ·rcases hs with rfl|rfl<;>rcases hq with hq|hq|hq<;>obtain rfl:=xU _ hq<;>clear hq <;>
     (go_enter func72,ntmps72
      go_wp2
      (first|go_ret2|skip)
      exact Z5.o _ _ _ fR.o)
   ·have NH:¬n<1:=ab;rcases hs with rfl|rfl<;>rcases hq with hq|hq|hq<;>obtain rfl:=xU _ hq<;>clear hq <;>
     (go_enter func72,ntmps72
      go_wp2
      (first|go_ret2|skip)
      exact Z5.o _ _ _ fR.o)
 ·have hng:∀x:nD,x.eZ=eZ->¬BJ fI cj x n:=fun x hx h=>hsq ⟨h.1.1,by rw[<-hx,aN];exact h.1.2⟩;have HG:∀t v (w':World),Fr aX w w'->oG fI cj ⟨decide (fI=3),cy,aO,bC,eZ,user,pass,method,target,body,bz,n.toNat⟩ n w (.returned (.tuple #[.string ⟨#[]⟩,.iface t v])) w':=fun t v w' hf=>⟨hf,Or.inl ⟨hng _ rfl,t,v,rfl⟩⟩;have Z5:=O HG;clear HG hng
  generalize oG fI cj ⟨decide (fI=3),cy,aO,bC,eZ,user,pass,method,target,body,bz,n.toNat⟩ n w=Q at *
  have dF:Fr aX w ((w.alloc (.cells #[.int .i64 fI,.string aO,.string bC,.string cj,.bool cy,.string eZ,.bool dr,dom] 127)).alloc (.cells #[.string user,.string pass] 31)):=((ae aX w).alloc _).alloc _;have fR:=O dF;clear dF;by_cases hs:fI=2\/fI=3
  ·have hq:¬(eZ.toList=[]\/eZ.toList=[97,117,116,104]\/eZ.toList=[97,117,116,104,45,105,110,116]):=fun h=>hsq ⟨hs,h⟩;have q1:¬eZ.toList=[]:=fun h=>hq (Or.inl h);have q2:¬eZ.toList=[97,117,116,104]:=fun h=>hq (Or.inr (Or.inl h));have q3:¬eZ.toList=[97,117,116,104,45,105,110,116]:=fun h=>hq (Or.inr (Or.inr h));have q4:(eZ.toList== [])=false:=aL.2 q1
   have q5:(eZ.toList== [97,117,116,104])=false:=aL.2 q2;have q6:(eZ.toList== [97,117,116,104,45,105,110,116])=false:=aL.2 q3;have q7:eZ.toList.isEmpty=false:=by cases hz:eZ.toList with|nil=>exact absurd hz q1|cons _ _=>rfl
   clear hsq hq xU;rcases hs with rfl|rfl
   ·go_enter func72,ntmps72;go_wp2
    (first|go_ret2|skip)
    exact Z5.o _ _ _ fR.o
   ·go_enter func72,ntmps72;go_wp2
    (first|go_ret2|skip)
    exact Z5.o _ _ _ fR.o
  ·have s2:¬fI=2:=fun h=>hs (Or.inl h);have s3:¬fI=3:=fun h=>hs (Or.inr h);clear hs hsq xU;go_enter func72,ntmps72;go_wp2
   (first|go_ret2|skip)
   exact Z5.o _ _ _ fR.o
