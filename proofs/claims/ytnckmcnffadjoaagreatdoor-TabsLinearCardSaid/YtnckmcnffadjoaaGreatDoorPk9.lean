/- Lemmas for the law's walk. -/
import Derived.Test.YtnckmcnffadjoaaGreatDoorPk8
import Derived.Deep.AppendLies
set_option maxRecDepth 100000
set_option maxHeartbeats 16000000
set_option linter.unusedSimpArgs false
namespace Go.Proofs.YtnckmcnffadjoaaGreatDoor
open Go.Proofs.Tryz
open Go.RowKit
variable {c b k g base i:Nat} {w:World} {v:Value} {e:TypeId} {xs:dh} {t:aj} {ps:List jF} {n W z l:Bs}
structure n9 where
 NW:Bool
 cD:Bool
 aM:aj
 bu:aj
 eJ:aj
 user:aj
 pass:aj
 method:aj
 target:aj
 body:aj
 bS:aj
 n:Nat
def jn:aj:=⟨#[97,117,116,104,45,105,110,116]⟩
def FM(x:n9):aj:=if x.cD then kL x.NW [kL x.NW [x.user,x.aM,x.pass],x.bu,x.bS]else kL x.NW [x.user,x.aM,x.pass]
def xK(x:n9):aj:=if x.eJ=jn then kL x.NW [x.method,x.target,kL x.NW [x.body]]else kL x.NW [x.method,x.target]
def ox(x:n9):aj:=if x.eJ=.empty then kL x.NW [FM x,x.bu,xK x]else kL x.NW [FM x,x.bu,⟨(jK x.n).toArray⟩,x.bS,x.eJ,xK x]
theorem at_len(k:Nat){P:Program}{f:FuncId}{x:Value}{a:eO}{W:World}{UL:Ending->World->Prop}(h:Calls P f #[x,.slice a k c] W UL):Calls P f #[x,.slice a k c] W UL:=h
theorem ace:¬jn=.empty:=dw
theorem tq{ss:List aj}(h:fT w v ss):fT w.drew v ss:=h
theorem acf(a:aj):(kX [a]).length=a.size:=by simp[kX,Lib.join,List.intercalate]
theorem acg(a b:aj):(kX [a,b]).length=a.size+b.size+1:=by simp[kX,Lib.join,List.intercalate];omega
theorem GK(a b c:aj):(kX [a,b,c]).length=a.size+b.size+c.size+2:=by simp[kX,Lib.join,List.intercalate];omega
theorem Qt(a b c d e f:aj):(kX [a,b,c,d,e,f]).length=a.size+b.size+c.size+d.size+e.size+f.size+5:=by simp[kX,Lib.join,List.intercalate];omega
theorem uR(n:Nat):(⟨(jK n).toArray⟩:aj).size=8:=by show(jK n).toArray.size=8;simp[jK,nZ]
structure n9.Small (x:n9):Prop where
 aM:x.aM.size<=5000
 bu:x.bu.size<=5000
 eJ:x.eJ.size<=5000
 user:x.user.size<=5000
 pass:x.pass.size<=5000
 method:x.method.size<=5000
 target:x.target.size<=5000
 body:x.body.size<=5000
 bS:x.bS.size<=5000
 n:x.n<4294967296
theorem zT(r:fQ Value)(x:n9)(w:World)(hx:x.Small)(h1:r.aM=x.aM)(h2:r.bu=x.bu)(h3:r.eJ=x.eJ)(h4:r.cD=x.cD)(h5:x.NW=decide (r.scheme=3))
  (ef:r.dom.oneCell'=true)(NX:ow w 9 .u8 Rz)(hh:tQ r.scheme w) :
  aB 102 #[.agg #[.int .i64 r.scheme,.string r.aM,.string r.bu,.string r.cz,.bool r.cD,.string r.eJ,.bool r.cR,r.dom],.agg #[.string x.user,.string x.pass],.string x.method,.string x.target,.string x.body,.string x.bS,.int .i64 x.n] w
   fun e w'=>e=.returned (.string (ox x))/\Fr aS w w':=by
 obtain⟨NW,cD,aM,bu,eJ,user,pass,method,target,body,bS,n⟩:=x;obtain⟨fV,iT,eT,cz,Qu,nw,cR,dom⟩:=r;obtain⟨z1,z2,z3,z4,z5,z6,z7,z8,z9,zn⟩:=hx;simp only at h1 h2 h3 h4 h5 ef z1 z2 z3 z4 z5 z6 z7 z8 z9 zn hh ⊢;subst h1 h2 h3 h4 h5;have HDB:=O NX;have HH:=O hh;have HD1:=O ef;clear NX hh;go_enter func102,ntmps102;go_wp2_with fail
 obtain⟨wb,kj⟩:∃wb,wb=(w.alloc (.cells #[.int .i64 fV,.string iT,.string eT,.string cz,.bool Qu,.string nw,.bool cR,dom] 112)).alloc (.cells #[.string user,.string pass] 39):=⟨_,rfl⟩;have xS:wb.heap.size=w.heap.size+1+1:=by rw[kj];simp
 have kC:Fr aS w wb:=by rw[kj];exact((ae aS w).alloc _).alloc _
 have hk:wb.heap[w.heap.size]?=some (.cells #[.int .i64 fV,.string iT,.string eT,.string cz,.bool Qu,.string nw,.bool cR,dom] 112 (0,0)):=by rw[kj];exact((ae aS _).alloc _).keep (aC _ _) id
 have HC:=O (show∀U,Fr aS wb U->U.cell? ⟨w.heap.size,0,none⟩=some (.int .i64 fV)/\U.cell? ⟨w.heap.size,2,none⟩=some (.string eT)/\U.cell? ⟨w.heap.size,4,none⟩=some (.bool Qu)/\U.cell? ⟨w.heap.size,5,none⟩=some (.string nw)from fun U hU=>by
  have sH:=hU.keep hk id;simp[World.cell?,sH])
 have hv:=gu wb 9 [user,iT,pass] (bd rfl);rw[xS]at hv;rw[<-kj];clear kj hk;refine(HH.o _ [user,iT,pass] _ (kC.alloc _) hv (bd rfl) (by rw[GK];omega)).mono ?_;rintro e u1⟨rfl,dk⟩;have ln:=O (show Fr aS wb u1 from((ae aS wb).alloc _).trans dk);have IV:=O (kC.trans ln.o);obtain⟨c0,c2,c4,c5⟩:=HC.o u1 ln.o;obtain⟨o0,ho0⟩:∃o0,o0=kL (decide (fV=3)) [user,iT,pass]:=⟨_,rfl⟩
 have hoz:o0.size<=64:=by rw[ho0];exact lV _ _
 rw[<-ho0];have HO0:=O ho0;clear ho0;clear hv dk xS;cases Qu
 ·obtain⟨o1,Bi⟩:∃o1,o1=o0:=⟨_,rfl⟩;rw[<-Bi]at hoz ⊢;have HO:=O (show FM ⟨decide (fV=3),false,iT,eT,nw,user,pass,method,target,body,bS,n⟩=o1 by rw[Bi,HO0.o];rfl);clear Bi;go_wp2_with fail
  refine(HH.o _ [method,target] _ (by repeat(first|exact IV.o|refine bF ?_ nO|apply bB|apply aA)) (gu _ _ [method,target] (bd rfl)) (bd rfl) (by rw[acg];omega)).mono ?_;rintro e u5⟨rfl,lN⟩;have v_:=O (show Fr aS wb u5 from bF (by repeat(first|exact ln.o|apply bB|apply aA)) lN);have GL:=O (kC.trans v_.o);obtain⟨d0,d2,d4,d5⟩:=HC.o u5 v_.o;clear c0 c2 c4 c5 lN
  obtain⟨t0,ZQ⟩:∃t0,t0=kL (decide (fV=3)) [method,target]:=⟨_,rfl⟩;have Yj:t0.size<=64:=by rw[ZQ];exact lV _ _
  rw[<-ZQ];have HT0:=O ZQ;clear ZQ;by_cases hqi:nw=jn
  ·subst hqi;have hai:jn.toList=[97,117,116,104,45,105,110,116]:=dw;have HRI:=O (show ox ⟨decide (fV=3),false,iT,eT,jn,user,pass,method,target,body,bS,n⟩=kL (decide (fV=3)) [FM ⟨decide (fV=3),false,iT,eT,jn,user,pass,method,target,body,bS,n⟩,eT,⟨(jK n).toArray⟩,bS,jn,xK ⟨decide (fV=3),false,iT,eT,jn,user,pass,method,target,body,bS,n⟩]from by unfold ox;rw[aq ace])
   have HTI:=O (show xK ⟨decide (fV=3),false,iT,eT,jn,user,pass,method,target,body,bS,n⟩=kL (decide (fV=3)) [method,target,kL (decide (fV=3)) [body]]from by unfold xK;rw[az rfl]);have hbz:=lV (decide (fV=3)) [body];obtain⟨bb,yd⟩:∃bb,bb=kL (decide (fV=3)) [body]:=⟨_,rfl⟩;have HBB:=O yd;rw[<-yd]at hbz HTI;clear yd;go_wp2_with fail
   go_region_held3 (fun U=>U.cell? ⟨w.heap.size,0,none⟩=some (.int .i64 fV)) ((refine(HC.o _ ?_).1;repeat(first|exact v_.o|refine bF ?_ rQ|refine bF ?_ nO|apply bB|apply aA))) (first|((with_reducible refine at_len 1 ?_);go_at_call 159;refine(HH.o _ [body] _ (by repeat(first|exact GL.o|apply bB|apply aA)) (by first|exact gu _ _ [body] (bd rfl)|exact tq (gu _ _ [body] (bd rfl))) (bd rfl) (by rw[acf];omega)).mono ?_;rw[<-HBB.o];rintro e w7 ⟨rfl,nO⟩)|((with_reducible refine at_len 3 ?_);go_at_call 159;refine(HH.o _ [method,target,bb] _ (by repeat(first|exact GL.o|refine bF ?_ nO|apply bB|apply aA)) (by first|exact gu _ _ [method,target,bb] (bd rfl)|exact tq (gu _ _ [method,target,bb] (bd rfl))) (bd rfl) (by rw[GK];omega)).mono ?_;rintro e w8 ⟨rfl,rQ⟩))
   all_goals
    have xo:=O (show Fr aS wb w8 from by repeat(first|exact v_.o|refine bF ?_ rQ|refine bF ?_ nO|apply bB|apply aA));have RC:=O (kC.trans xo.o);clear nO rQ d0 d2 d4 d5;obtain⟨d0,d2,d4,d5⟩:=HC.o w8 xo.o;obtain⟨t2,Lr⟩:∃t2,t2=kL (decide (fV=3)) [method,target,bb]:=⟨_,rfl⟩;have anW:t2.size<=64:=by rw[Lr];exact lV _ _
    rw[<-Lr];have HT:=O (HTI.o.trans Lr.symm);have HR:=O HRI.o;clear Lr;have anX:¬jn.toList=[]:=by rw[hai];simp
    have Yq:=O (fun(U:World) (hU:Fr aS wb U)=>And.intro (HC.o U hU).1 (And.intro (HC.o U hU).2.1 (HC.o U hU).2.2.2));clear Yj;go_wp2_with fail
    go_region_held3 (fun U=>U.cell? ⟨w.heap.size,0,none⟩=some (.int .i64 fV)/\U.cell? ⟨w.heap.size,2,none⟩=some (.string eT)/\U.cell? ⟨w.heap.size,5,none⟩=some (.string jn)) ((refine Yq.o _ ?_;repeat(first|exact xo.o|refine bF ?_ rQ|refine bF ?_ nO|apply bB|apply aA))) (first|(go_at_call 104;refine(rF n _ zn (HDB.o.fr (by repeat(first|exact RC.o|refine bF ?_ nO|apply bB|apply aA)))).mono ?_;rintro e w7 ⟨rfl,nO⟩)|(go_at_call 159;refine(HH.o _ [o1,eT,⟨(jK n).toArray⟩,bS,jn,t2] _ (by repeat(first|exact RC.o|refine bF ?_ nO|apply bB|apply aA)) (gu _ _ _ (bd rfl)) (bd rfl) (by rw[Qt];have:=uR n;omega)).mono ?_;rintro e w8 ⟨rfl,rQ⟩))
    all_goals
     have DY:=O (show Fr aS w w8 from bF (by repeat(first|exact RC.o|refine bF ?_ nO|apply bB|apply aA)) rQ);clear rQ;go_wp2;go_ret;exact⟨by rw[HR.o,HO.o,HT.o];rfl,DY.o⟩
  ·have hq1:¬nw.toList=[97,117,116,104,45,105,110,116]:=fun h=>hqi (by rw[aP]at h;exact Go.WideShapes.bytes_inj h);have hq2:(nw.toList== [97,117,116,104,45,105,110,116])=false:=by simp[hq1]
   obtain⟨t2,Lr⟩:∃t2,t2=t0:=⟨_,rfl⟩;rw[<-Lr]at Yj ⊢;have HT:=O (show xK ⟨decide (fV=3),false,iT,eT,nw,user,pass,method,target,body,bS,n⟩=t2 by rw[Lr,HT0.o];unfold xK;rw[aq hqi]);clear Lr;by_cases RD:nw=.empty
   ·subst RD;have anY:ByteArray.empty.toList=[]:=dw;have HR:=O (show ox ⟨decide (fV=3),false,iT,eT,.empty,user,pass,method,target,body,bS,n⟩=kL (decide (fV=3)) [FM ⟨decide (fV=3),false,iT,eT,.empty,user,pass,method,target,body,bS,n⟩,eT,xK ⟨decide (fV=3),false,iT,eT,.empty,user,pass,method,target,body,bS,n⟩]from by unfold ox;rw[az rfl]);go_wp2_with fail
    refine(HH.o _ [o1,eT,t2] _ (by repeat(first|exact GL.o|refine bF ?_ nO|apply bB|apply aA)) (gu _ _ [o1,eT,t2] (bd rfl)) (bd rfl) (by rw[GK];omega)).mono ?_;rintro e u9⟨rfl,ZR⟩;go_wp2;go_ret;exact⟨by rw[HR.o,HO.o,HT.o];rfl,bF (by repeat(first|exact GL.o|refine bF ?_ nO|apply bB|apply aA)) ZR⟩
   ·have ZS:¬nw.toList=[]:=fun h=>RD (by rw[aP]at h;exact Go.WideShapes.bytes_inj h);have hq4:nw.toList.isEmpty=false:=by cases hz:nw.toList with|nil=>exact absurd hz ZS|cons _ _=>rfl
    have HR:=O (show ox ⟨decide (fV=3),false,iT,eT,nw,user,pass,method,target,body,bS,n⟩=kL (decide (fV=3)) [FM ⟨decide (fV=3),false,iT,eT,nw,user,pass,method,target,body,bS,n⟩,eT,⟨(jK n).toArray⟩,bS,nw,xK ⟨decide (fV=3),false,iT,eT,nw,user,pass,method,target,body,bS,n⟩]from by unfold ox;rw[aq RD])
    have Yq:=O (fun(U:World) (hU:Fr aS wb U)=>And.intro (HC.o U hU).1 (And.intro (HC.o U hU).2.1 (HC.o U hU).2.2.2));go_wp2_with fail
    go_region_held3 (fun U=>U.cell? ⟨w.heap.size,0,none⟩=some (.int .i64 fV)/\U.cell? ⟨w.heap.size,2,none⟩=some (.string eT)/\U.cell? ⟨w.heap.size,5,none⟩=some (.string nw)) ((refine Yq.o _ ?_;repeat(first|exact v_.o|refine bF ?_ rQ|refine bF ?_ nO|apply bB|apply aA))) (first|(go_at_call 104;refine(rF n _ zn (HDB.o.fr (by repeat(first|exact GL.o|refine bF ?_ nO|apply bB|apply aA)))).mono ?_;rintro e w7 ⟨rfl,nO⟩)|(go_at_call 159;refine(HH.o _ [o1,eT,⟨(jK n).toArray⟩,bS,nw,t2] _ (by repeat(first|exact GL.o|refine bF ?_ nO|apply bB|apply aA)) (gu _ _ _ (bd rfl)) (bd rfl) (by rw[Qt];have:=uR n;omega)).mono ?_;rintro e w8 ⟨rfl,rQ⟩))
    all_goals
     have DY:=O (show Fr aS w w8 from bF (by repeat(first|exact GL.o|refine bF ?_ nO|apply bB|apply aA)) rQ);clear rQ;go_wp2;go_ret;exact⟨by rw[HR.o,HO.o,HT.o];rfl,DY.o⟩
 ·go_wp2_with fail
  refine(HH.o _ [o0,eT,bS] _ (by repeat(first|exact IV.o|apply bB|apply aA)) (gu _ _ [o0,eT,bS] (bd rfl)) (bd rfl) (by rw[GK];omega)).mono ?_;rintro e u2⟨rfl,dE⟩;have fU:=O (show Fr aS wb u2 from bF (by repeat(first|exact ln.o|apply bB|apply aA)) dE);have nP:=O (kC.trans fU.o);clear c0 c2 c4 c5 dE;obtain⟨c0,c2,c4,c5⟩:=HC.o u2 fU.o;obtain⟨o1,Bi⟩:∃o1,o1=kL (decide (fV=3)) [o0,eT,bS]:=⟨_,rfl⟩
  have au_:o1.size<=64:=by rw[Bi];exact lV _ _
  rw[<-Bi];have HO:=O (show FM ⟨decide (fV=3),true,iT,eT,nw,user,pass,method,target,body,bS,n⟩=o1 by rw[Bi,HO0.o];rfl);clear Bi;go_wp2_with fail
  refine(HH.o _ [method,target] _ (by repeat(first|exact nP.o|refine bF ?_ nO|apply bB|apply aA)) (gu _ _ [method,target] (bd rfl)) (bd rfl) (by rw[acg];omega)).mono ?_;rintro e u5⟨rfl,lN⟩;have v_:=O (show Fr aS wb u5 from bF (by repeat(first|exact fU.o|apply bB|apply aA)) lN);have GL:=O (kC.trans v_.o);obtain⟨d0,d2,d4,d5⟩:=HC.o u5 v_.o;clear c0 c2 c4 c5 lN
  obtain⟨t0,ZQ⟩:∃t0,t0=kL (decide (fV=3)) [method,target]:=⟨_,rfl⟩;have Yj:t0.size<=64:=by rw[ZQ];exact lV _ _
  rw[<-ZQ];have HT0:=O ZQ;clear ZQ;by_cases hqi:nw=jn
  ·subst hqi;have hai:jn.toList=[97,117,116,104,45,105,110,116]:=dw;have HRI:=O (show ox ⟨decide (fV=3),true,iT,eT,jn,user,pass,method,target,body,bS,n⟩=kL (decide (fV=3)) [FM ⟨decide (fV=3),true,iT,eT,jn,user,pass,method,target,body,bS,n⟩,eT,⟨(jK n).toArray⟩,bS,jn,xK ⟨decide (fV=3),true,iT,eT,jn,user,pass,method,target,body,bS,n⟩]from by unfold ox;rw[aq ace])
   have HTI:=O (show xK ⟨decide (fV=3),true,iT,eT,jn,user,pass,method,target,body,bS,n⟩=kL (decide (fV=3)) [method,target,kL (decide (fV=3)) [body]]from by unfold xK;rw[az rfl]);have hbz:=lV (decide (fV=3)) [body];obtain⟨bb,yd⟩:∃bb,bb=kL (decide (fV=3)) [body]:=⟨_,rfl⟩;have HBB:=O yd;rw[<-yd]at hbz HTI;clear yd;go_wp2_with fail
   go_region_held3 (fun U=>U.cell? ⟨w.heap.size,0,none⟩=some (.int .i64 fV)) ((refine(HC.o _ ?_).1;repeat(first|exact v_.o|refine bF ?_ rQ|refine bF ?_ nO|apply bB|apply aA))) (first|((with_reducible refine at_len 1 ?_);go_at_call 159;refine(HH.o _ [body] _ (by repeat(first|exact GL.o|apply bB|apply aA)) (by first|exact gu _ _ [body] (bd rfl)|exact tq (gu _ _ [body] (bd rfl))) (bd rfl) (by rw[acf];omega)).mono ?_;rw[<-HBB.o];rintro e w7 ⟨rfl,nO⟩)|((with_reducible refine at_len 3 ?_);go_at_call 159;refine(HH.o _ [method,target,bb] _ (by repeat(first|exact GL.o|refine bF ?_ nO|apply bB|apply aA)) (by first|exact gu _ _ [method,target,bb] (bd rfl)|exact tq (gu _ _ [method,target,bb] (bd rfl))) (bd rfl) (by rw[GK];omega)).mono ?_;rintro e w8 ⟨rfl,rQ⟩))
   all_goals
    have xo:=O (show Fr aS wb w8 from by repeat(first|exact v_.o|refine bF ?_ rQ|refine bF ?_ nO|apply bB|apply aA));have RC:=O (kC.trans xo.o);clear nO rQ d0 d2 d4 d5;obtain⟨d0,d2,d4,d5⟩:=HC.o w8 xo.o;obtain⟨t2,Lr⟩:∃t2,t2=kL (decide (fV=3)) [method,target,bb]:=⟨_,rfl⟩;have anW:t2.size<=64:=by rw[Lr];exact lV _ _
    rw[<-Lr];have HT:=O (HTI.o.trans Lr.symm);have HR:=O HRI.o;clear Lr;have anX:¬jn.toList=[]:=by rw[hai];simp
    have Yq:=O (fun(U:World) (hU:Fr aS wb U)=>And.intro (HC.o U hU).1 (And.intro (HC.o U hU).2.1 (HC.o U hU).2.2.2));clear Yj;go_wp2_with fail
    go_region_held3 (fun U=>U.cell? ⟨w.heap.size,0,none⟩=some (.int .i64 fV)/\U.cell? ⟨w.heap.size,2,none⟩=some (.string eT)/\U.cell? ⟨w.heap.size,5,none⟩=some (.string jn)) ((refine Yq.o _ ?_;repeat(first|exact xo.o|refine bF ?_ rQ|refine bF ?_ nO|apply bB|apply aA))) (first|(go_at_call 104;refine(rF n _ zn (HDB.o.fr (by repeat(first|exact RC.o|refine bF ?_ nO|apply bB|apply aA)))).mono ?_;rintro e w7 ⟨rfl,nO⟩)|(go_at_call 159;refine(HH.o _ [o1,eT,⟨(jK n).toArray⟩,bS,jn,t2] _ (by repeat(first|exact RC.o|refine bF ?_ nO|apply bB|apply aA)) (gu _ _ _ (bd rfl)) (bd rfl) (by rw[Qt];have:=uR n;omega)).mono ?_;rintro e w8 ⟨rfl,rQ⟩))
    all_goals
     have DY:=O (show Fr aS w w8 from bF (by repeat(first|exact RC.o|refine bF ?_ nO|apply bB|apply aA)) rQ);clear rQ;go_wp2;go_ret;exact⟨by rw[HR.o,HO.o,HT.o];rfl,DY.o⟩
  ·have hq1:¬nw.toList=[97,117,116,104,45,105,110,116]:=fun h=>hqi (by rw[aP]at h;exact Go.WideShapes.bytes_inj h);have hq2:(nw.toList== [97,117,116,104,45,105,110,116])=false:=by simp[hq1]
   obtain⟨t2,Lr⟩:∃t2,t2=t0:=⟨_,rfl⟩;rw[<-Lr]at Yj ⊢;have HT:=O (show xK ⟨decide (fV=3),true,iT,eT,nw,user,pass,method,target,body,bS,n⟩=t2 by rw[Lr,HT0.o];unfold xK;rw[aq hqi]);clear Lr;by_cases RD:nw=.empty
   ·subst RD;have anY:ByteArray.empty.toList=[]:=dw;have HR:=O (show ox ⟨decide (fV=3),true,iT,eT,.empty,user,pass,method,target,body,bS,n⟩=kL (decide (fV=3)) [FM ⟨decide (fV=3),true,iT,eT,.empty,user,pass,method,target,body,bS,n⟩,eT,xK ⟨decide (fV=3),true,iT,eT,.empty,user,pass,method,target,body,bS,n⟩]from by unfold ox;rw[az rfl]);go_wp2_with fail
    refine(HH.o _ [o1,eT,t2] _ (by repeat(first|exact GL.o|refine bF ?_ nO|apply bB|apply aA)) (gu _ _ [o1,eT,t2] (bd rfl)) (bd rfl) (by rw[GK];omega)).mono ?_;rintro e u9⟨rfl,ZR⟩;go_wp2;go_ret;exact⟨by rw[HR.o,HO.o,HT.o];rfl,bF (by repeat(first|exact GL.o|refine bF ?_ nO|apply bB|apply aA)) ZR⟩
   ·have ZS:¬nw.toList=[]:=fun h=>RD (by rw[aP]at h;exact Go.WideShapes.bytes_inj h);have hq4:nw.toList.isEmpty=false:=by cases hz:nw.toList with|nil=>exact absurd hz ZS|cons _ _=>rfl
    have HR:=O (show ox ⟨decide (fV=3),true,iT,eT,nw,user,pass,method,target,body,bS,n⟩=kL (decide (fV=3)) [FM ⟨decide (fV=3),true,iT,eT,nw,user,pass,method,target,body,bS,n⟩,eT,⟨(jK n).toArray⟩,bS,nw,xK ⟨decide (fV=3),true,iT,eT,nw,user,pass,method,target,body,bS,n⟩]from by unfold ox;rw[aq RD])
    have Yq:=O (fun(U:World) (hU:Fr aS wb U)=>And.intro (HC.o U hU).1 (And.intro (HC.o U hU).2.1 (HC.o U hU).2.2.2));go_wp2_with fail
    go_region_held3 (fun U=>U.cell? ⟨w.heap.size,0,none⟩=some (.int .i64 fV)/\U.cell? ⟨w.heap.size,2,none⟩=some (.string eT)/\U.cell? ⟨w.heap.size,5,none⟩=some (.string nw)) ((refine Yq.o _ ?_;repeat(first|exact v_.o|refine bF ?_ rQ|refine bF ?_ nO|apply bB|apply aA))) (first|(go_at_call 104;refine(rF n _ zn (HDB.o.fr (by repeat(first|exact GL.o|refine bF ?_ nO|apply bB|apply aA)))).mono ?_;rintro e w7 ⟨rfl,nO⟩)|(go_at_call 159;refine(HH.o _ [o1,eT,⟨(jK n).toArray⟩,bS,nw,t2] _ (by repeat(first|exact GL.o|refine bF ?_ nO|apply bB|apply aA)) (gu _ _ _ (bd rfl)) (bd rfl) (by rw[Qt];have:=uR n;omega)).mono ?_;rintro e w8 ⟨rfl,rQ⟩))
    all_goals
     have DY:=O (show Fr aS w w8 from bF (by repeat(first|exact GL.o|refine bF ?_ nO|apply bB|apply aA)) rQ);clear rQ;go_wp2;go_ret;exact⟨by rw[HR.o,HO.o,HT.o];rfl,DY.o⟩
def nQ(path query:aj):aj:=if query.size=0 then path else(path++⟨#[63]⟩)++query
theorem OwnRows.kind(h:OwnRows b e k w v xs)(hg:own v g):∃c,w.heap[g]?=some (.cells c e (0,0)):=by
 obtain⟨cap,cur,_,_,h2,_⟩:=h.open hg;exact⟨cur,h2⟩
def dy(b:Nat)(gv wv:Value):dF:=fun k=>k=b\/own gv k\/own wv k
section
variable {base : Nat} {w w' : World} {b : Nat} {gv wv : Value} {gs : List (aQ bE)} {ws : List (bK bE)}
theorem dH.ur(h:dH base w b gv wv gs ws)(hk:own gv k):∃c,w.heap[k]?=some (.cells c 114 (0,0)):=by
 obtain⟨rs,h1,_⟩:=h.bG;exact h1.kind hk
theorem dH.wW(h:dH base w b gv wv gs ws)(hk:own wv k):∃c,w.heap[k]?=some (.cells c 133 (0,0)):=by
 obtain⟨rs,h1,_⟩:=h.waits;exact h1.kind hk
theorem dH.gw(h:dH base w b gv wv gs ws)(hk:own gv k):¬own wv k:=by
 intro h2;obtain⟨c,e1⟩:=h.ur hk;obtain⟨d,e2⟩:=h.wW h2;rw[e1]at e2;cases e2
theorem dH.gb(h:dH base w b gv wv gs ws):¬own gv b:=by
 intro h2;obtain⟨c,e1⟩:=h.ur h2;have e2:=h.eN;rw[e1]at e2;cases e2
theorem dH.wb(h:dH base w b gv wv gs ws):¬own wv b:=by
 intro h2;obtain⟨c,e1⟩:=h.wW h2;have e2:=h.eN;rw[e1]at e2;cases e2
theorem dH.aiE(h:dH base w b gv wv gs ws)(hk:own gv k):base<=k:=by
 obtain⟨rs,h1,_⟩:=h.bG;exact h1.block k hk
theorem dH.aiF(h:dH base w b gv wv gs ws)(hk:own wv k):base<=k:=by
 obtain⟨rs,h1,_⟩:=h.waits;exact h1.block k hk
theorem dH.off(h:dH base w b gv wv gs ws):sG base w (dy b gv wv):=by
 intro k hk _;rcases hk with rfl|hk|hk
 ·exact⟨h.low,fun c f e=>by rw[h.eN]at e;cases e⟩
 ·obtain⟨c,e1⟩:=h.ur hk;exact⟨h.aiE hk,fun c f e=>by rw[e1]at e;cases e⟩
 ·obtain⟨c,e1⟩:=h.wW hk;exact⟨h.aiF hk,fun c f e=>by rw[e1]at e;cases e⟩
end
def kM(base:Nat)(w:World)(b:Nat)(gv wv:Value)(gs:List (aQ bE))(ws:List (bK bE))(w':World):Prop :=
 ∃gv' wv',dH base w' b gv' wv' gs ws/\Fr (dy b gv wv) w w'/\∀k,dy b gv' wv' k->dy b gv wv k\/w.heap.size<=k
def El(go:gG)(gx:Bool)(gr:aj)(o:gG)(proxy:Bool)(aM:aj):Bool:=go.lz o&&(gx==proxy&&gr.toList==aM.toList)
def np(o:gG)(proxy:Bool)(aM:aj)(g:aQ bE):Bool:=El g.o g.proxy g.a.aM o proxy aM
def LC(o:gG)(proxy:Bool)(aM:aj)(x:aZ):Bool:=El (ahA x) (cB x 3) (cS x 7) o proxy aM
theorem LD(g:aQ Value)(o:gG)(proxy:Bool)(aM:aj)(w:World) :
  aB 109 #[.agg g.cells.toArray,.agg o.cells.toArray,.bool proxy,.string aM] w fun e w'=>e=.returned (.bool (El g.o g.proxy g.a.aM o proxy aM))/\Fr aS w w':=by
 have heq:=jG g.o o;unfold aQ.cells gG.cells;cases e1:g.o.lz o
 ·have HR:=O (show El g.o g.proxy g.a.aM o proxy aM=false by unfold El;rw[e1];rfl);go_enter func109,ntmps109;go_wp2;go_ret;exact⟨by rw[HR.o];rfl,((ae _ _).alloc _).alloc _⟩
 ·have HR:=O (show El g.o g.proxy g.a.aM o proxy aM=(g.proxy==proxy&&g.a.aM.toList==aM.toList)by unfold El;rw[e1];rfl);cases e2:g.proxy==proxy
  ·go_enter func109,ntmps109;go_wp2;go_ret;exact⟨by rw[HR.o,e2];rfl,((ae _ _).alloc _).alloc _⟩
  ·go_enter func109,ntmps109;go_wp2;go_ret;exact⟨by rw[HR.o,e2];rfl,((ae _ _).alloc _).alloc _⟩
theorem RW(g:aQ Value)(ef:∀u∈g.cells,u.oneCell'=true)(o:gG)(proxy:Bool)(aM:aj)(bo bp br:Nat)(w:World)(ho:w.heap[bo]?=some (.cells #[.bool o.aG,.string o.host,.int .i64 o.port] 32 (0,0)))
  (hp:w.heap[bp]?=some (.cells #[.bool proxy] 4 (0,0)))(hr:w.heap[br]?=some (.cells #[.string aM] 9 (0,0))) :
  aB 108 #[.agg g.cells.toArray,.pointer (some ⟨bo,0,none⟩),.pointer (some ⟨bp,0,none⟩),.pointer (some ⟨br,0,none⟩)] w fun e w'=>e=.returned (.bool (LC o proxy aM g.cells))/\Fr aS w w':=by
 obtain⟨x,hx⟩:∃x,x=g.cells:=⟨_,rfl⟩;have lM:x.length=16:=by rw[hx];rfl
 have HX:=O hx;have Ed:=O (I' lM);have jx:=fun W=>run_storeCells_new (P:=prog) W 114 #[.bool false,.string ⟨#[]⟩,.int .i64 0,.bool false,.string ⟨#[]⟩,.string ⟨#[]⟩,.int .i64 0,.string ⟨#[]⟩,.string ⟨#[]⟩,.string ⟨#[]⟩,.bool false,.string ⟨#[]⟩,.bool false,.slice none 0 0,.int .i64 0,.slice none 0 0] x (by rw[lM];rfl) (by rw[hx];exact ef)
 have gX:Fr aS w (w.alloc (.cells x.toArray 114)):=(ae aS w).alloc _;have rk:=O (gX.keep ho id);have Dx:=gX.keep hp id;have oF:=gX.keep hr id;have cp:(w.alloc (.cells x.toArray 114)).cell? ⟨bp,0,none⟩=some (.bool proxy):=by simp only[World.cell?,Dx];rfl
 have cr:(w.alloc (.cells x.toArray 114)).cell? ⟨br,0,none⟩=some (.string aM):=by simp only[World.cell?,oF];rfl
 have fH:=O (LD g o proxy aM (w.alloc (.cells x.toArray 114)));rw[<-hx];rw[<-hx]at fH;clear hx ho hp hr Dx oF;go_enter func108,ntmps108
 go_wp2_with (first|((with_reducible refine dr 6 ?_);refine aI rfl 114 (.tmp 4) rfl w.heap.size rfl _ x.toArray (0,0) _ (aC w _) underlying114 rfl (by rw[aX];exact Ed.o) ?_)|((with_reducible refine dr 7 ?_);refine aI rfl 32 (.tmp 1) rfl bo rfl _ _ (0,0) _ rk.o underlying32 rfl af ?_)|fail)
 refine fH.o.mono ?_;rintro e w2⟨rfl,dE⟩;go_wp2;go_ret;rw[HX.o];exact⟨rfl,gX.trans dE⟩
theorem FQ(S:dF)(w:World)(o:gG)(proxy:Bool)(aM:aj)(bo bp br:Nat)(rs:List (aQ Value))(ef:∀r∈rs,∀u∈r.cells,u.oneCell'=true)
  (ho:w.heap[bo]?=some (.cells #[.bool o.aG,.string o.host,.int .i64 o.port] 32 (0,0)))(hp:w.heap[bp]?=some (.cells #[.bool proxy] 4 (0,0)))(hr:w.heap[br]?=some (.cells #[.string aM] 9 (0,0)))
  (h1:¬S bo)(h2:¬S bp)(h3:¬S br) :
  gT S w 108 #[.pointer (some ⟨bo,0,none⟩),.pointer (some ⟨bp,0,none⟩),.pointer (some ⟨br,0,none⟩)] (LC o proxy aM) (rs.map aQ.cells):=by
 intro x hx u hu;obtain⟨r,hr0,rfl⟩:=bZ.1 hx;exact RW r (ef r hr0) o proxy aM bo bp br u (hu.keep ho h1) (hu.keep hp h2) (hu.keep hr h3)
theorem dH.aiG{base:Nat}{w:World}{b:Nat}{gv0 gv wv:Value}{gs:List (aQ bE)}{ws:List (bK bE)}(hl:base<=b)(hb:w.heap[b]?=some (.cells #[gv0,wv] 89 (0,0)))(hg:gy base w gv gs)(hw:ks base w wv ws) :
  dH base (w.setCell ⟨b,0,none⟩ gv) b gv wv gs ws:=by
 have rZ:sG base w (one b):=by
  rintro k rfl _;exact⟨hl,fun c f e=>by rw[hb]at e;cases e⟩
 have kR:Fr (one b) w (w.setCell ⟨b,0,none⟩ gv):=(ae (one b) w).setCell (p:=⟨b,0,none⟩) (fun _=>rfl) _;refine⟨hl,cq hb 0 gv,hg.fr kR rZ ?_,hw.fr kR rZ ?_⟩
 ·rintro k hk rfl;obtain⟨rs,h1,_⟩:=hg;obtain⟨c,e⟩:=h1.kind hk;rw[hb]at e;cases e
 ·rintro k hk rfl;obtain⟨rs,h1,_⟩:=hw;obtain⟨c,e⟩:=h1.kind hk;rw[hb]at e;cases e
theorem dH.aei{wv0 gv wv:Value}{gs:List (aQ bE)}{ws:List (bK bE)}(hl:base<=b)(hb:w.heap[b]?=some (.cells #[gv,wv0] 89 (0,0)))(hg:gy base w gv gs)(hw:ks base w wv ws) :
  dH base (w.setCell ⟨b,1,none⟩ wv) b gv wv gs ws:=by
 have rZ:sG base w (one b):=by
  rintro k rfl _;exact⟨hl,fun c f e=>by rw[hb]at e;cases e⟩
 have kR:Fr (one b) w (w.setCell ⟨b,1,none⟩ wv):=(ae (one b) w).setCell (p:=⟨b,1,none⟩) (fun _=>rfl) _;refine⟨hl,cq hb 1 wv,hg.fr kR rZ ?_,hw.fr kR rZ ?_⟩
 ·rintro k hk rfl;obtain⟨rs,h1,_⟩:=hg;obtain⟨c,e⟩:=h1.kind hk;rw[hb]at e;cases e
 ·rintro k hk rfl;obtain⟨rs,h1,_⟩:=hw;obtain⟨c,e⟩:=h1.kind hk;rw[hb]at e;cases e
theorem gy.Ac{base:Nat}{w:World}{v:Value}{rs:List (aQ Value)}{gs:List (aQ bE)}{p:aZ->Bool}{q:aQ bE->Bool}(h1:OwnRows base 114 16 w v ((rs.map aQ.cells).filter (fun x=>!p x)))(h2:lq (aQ.Reads (dx base w)) rs gs)
  (hpq:∀r g,aQ.Reads (dx base w) r g->p r.cells=q g):gy base w v (gs.filter (fun g=>!q g))/\((rs.map aQ.cells).filter (fun x=>!p x)).length=(gs.filter (fun g=>!q g)).length:=by
 have hb:lq (aQ.Reads (dx base w)) (rs.filter (fun r=>!p r.cells)) (gs.filter (fun g=>!q g)):=h2.filter (fun r g h=>by rw[hpq r g h]);have he:(rs.map aQ.cells).filter (fun x=>!p x)=(rs.filter (fun r=>!p r.cells)).map aQ.cells:=by rw[List.filter_map];rfl
 refine⟨⟨_,by rw[he]at h1;exact h1,hb⟩,?_⟩;rw[he,ai,hb.len]
theorem Ck{r:aQ Value}{g:aQ bE}(h:aQ.Reads (dx base w) r g)(o:gG)(proxy:Bool)(aM:aj):LC o proxy aM r.cells=np o proxy aM g:=by
 obtain⟨h1,h2,_,_,⟨_,h3,_⟩,_⟩:=h;unfold np;rw[<-h1, <-h2, <-h3];rfl
def wX(base:Nat)(w:World)(b:Nat)(gv wv:Value)(gs:List (aQ bE))(ws:List (bK bE))(q:aQ bE->Bool)(e:Ending)(w':World):Prop :=
 e=.returned (.bool (decide ((gs.filter (fun g=>!q g)).length<gs.length)))/\kM base w b gv wv (gs.filter (fun g=>!q g)) ws w'
theorem Ad(base:Nat)(w:World)(b:Nat)(gv wv:Value)(gs:List (aQ bE))(ws:List (bK bE))(o:gG)(proxy:Bool)(aM:aj)(h:dH base w b gv wv gs ws) :
  aB 53 #[.pointer (some ⟨b,0,none⟩),.agg o.cells.toArray,.bool proxy,.string aM] w (wX base w b gv wv gs ws (np o proxy aM)):=by
 unfold gG.cells;obtain⟨av,cv,hv⟩:=h.bG.form;subst hv;have sS:=h.lt;have lD:=h.low;have pq:Fr aS w _:=(((ae aS w).alloc (.cells #[.bool o.aG,.string o.host,.int .i64 o.port] 32)).alloc (.cells #[.bool proxy] 4)).alloc (.cells #[.string aM] 9)
 have b0:(((w.alloc (.cells #[.bool o.aG,.string o.host,.int .i64 o.port] 32)).alloc (.cells #[.bool proxy] 4)).alloc (.cells #[.string aM] 9)).heap[w.heap.size]?=some (.cells #[.bool o.aG,.string o.host,.int .i64 o.port] 32 (0,0)):=by
  rw[Below.heap_alloc _ _ _ bH,Below.heap_alloc _ _ _ aR];exact aC _ _
 have b1:(((w.alloc (.cells #[.bool o.aG,.string o.host,.int .i64 o.port] 32)).alloc (.cells #[.bool proxy] 4)).alloc (.cells #[.string aM] 9)).heap[w.heap.size+1]?=some (.cells #[.bool proxy] 4 (0,0)):=by
  rw[Below.heap_alloc _ _ _ aR];have h:=aC (w.alloc (.cells #[.bool o.aG,.string o.host,.int .i64 o.port] 32)) (.cells #[.bool proxy] 4);simpa using h
 have b2:(((w.alloc (.cells #[.bool o.aG,.string o.host,.int .i64 o.port] 32)).alloc (.cells #[.bool proxy] 4)).alloc (.cells #[.string aM] 9)).heap[w.heap.size+2]?=some (.cells #[.string aM] 9 (0,0)):=by
  have h:=aC ((w.alloc (.cells #[.bool o.aG,.string o.host,.int .i64 o.port] 32)).alloc (.cells #[.bool proxy] 4)) (.cells #[.string aM] 9);simpa using h
 have h1:=h.dm pq;have h0:=h1.c0;have B0:=O b0;have B1:=O b1;have B2:=O b2;clear b0 b1 b2;go_enter func53,ntmps53;go_wp2_with fail
 clear h0;generalize ((w.alloc (.cells _ 32)).alloc _).alloc _=W at *
 obtain⟨rs,Bi,rk⟩:=h1.bG;have ef:∀r∈rs,∀u∈r.cells,u.oneCell'=true:=fun r hr=>(Bi.1 r.cells (bZ.2 ⟨r,hr,rfl⟩)).2;have hW:w.heap.size<=W.heap.size:=pq.size;have Yu:∀k,own (.slice av gs.length cv) k->k<w.heap.size:=fun k hk=>by
  obtain⟨c,e⟩:=h.ur hk;exact bq e
 have hd:=O (ye base 108 #[.pointer (some ⟨w.heap.size,0,none⟩),.pointer (some ⟨w.heap.size+1,0,none⟩),.pointer (some ⟨w.heap.size+1+1,0,none⟩)] (LC o proxy aM) _ _ W call108
  (FQ _ W o proxy aM w.heap.size (w.heap.size+1) (w.heap.size+1+1) rs ef B0.o B1.o B2.o (fun hk=>by have:=Yu _ hk;omega) (fun hk=>by have:=Yu _ hk;omega) (fun hk=>by have:=Yu _ hk;omega)) Bi)
 refine hd.o.mono ?_;rintro e w2⟨a2,c2,rfl,yz,dE,fG⟩;have VB:=rk.mono (fun _ _ h=>h.mono (fun _ _ h=>h.fr dE (fun k hk hl=>h1.off k (Or.inr (Or.inl hk)) hl)));obtain⟨Yo,Oa⟩:=gy.Ac yz VB (fun r g h=>Ck h o proxy aM);rw[Oa]at Yo fG ⊢;have kJ:=dE.keep h1.eN h1.gb;have eG:=h1.waits.fr dE (fun k hk hl=>h1.off k (Or.inr (Or.inl hk)) hl) (fun k hk hg=>h1.gw hg hk);have re:=O (dH.aiG lD kJ Yo eG)
 have c0:w2.cell? ⟨b,0,none⟩=some (.slice av gs.length cv):=by simp[World.cell?,kJ]
 have f0:w2.frozen? ⟨b,0,none⟩=false:=by simp[World.frozen?,kJ]
 have ZO:Fr (dy b (.slice av gs.length cv) wv) w w2:=gl (pq.mono (fun _ _ h=>absurd h id)) dE (fun k _ hk=>Or.inr (Or.inl hk));have HB:=ZO.setCell (p:=⟨b,0,none⟩) (fun _=>Or.inl rfl) (.slice a2 (gs.filter (fun g=>!np o proxy aM g)).length c2);have lA:∀k,dy b (.slice a2 (gs.filter (fun g=>!np o proxy aM g)).length c2) wv k->dy b (.slice av gs.length cv) wv k\/w.heap.size<=k:=by
  intro k hk;unfold dy at hk;rw[fG]at hk;exact Or.inl hk
 clear hd Bi rk VB yz kJ eG Yo h1 ef Yu Oa ZO;obtain⟨fs,kR⟩:∃fs,fs=gs.filter (fun g=>!np o proxy aM g):=⟨_,rfl⟩;rw[<-kR]at re fG HB lA ⊢;have VC:=O kR;clear kR;go_wp2_with fail
 go_ret;unfold wX;rw[<-VC.o];exact⟨fF aR,_,_,re.o,HB,lA⟩
abbrev nS := @dH.aiG
theorem Sd(a:fQ bE)(x:nA):a.scheme<=(pW a x).scheme:=by
 unfold pW;split
 ·exact fM _
 ·split
  ·omega
  ·exact fM _
theorem aai:∀(l:List nA) (a:fQ bE),a.scheme<=(l.foldl pW a).scheme
 |[],_=>fM _
 |x :: l,a=>Int.le_trans (Sd a x) (aai l (pW a x))
theorem QG:∀(l:List nA) (a:fQ bE),l.foldl pW a=a\/∃x∈l,nr x=some (l.foldl pW a)
 |[],_=>Or.inl rfl
 |x :: l,a=>by
  rw[List.foldl_cons];rcases QG l (pW a x)with h|⟨y,hy,h⟩
  ·rw[h];unfold pW;split
   ·exact Or.inl rfl
   ·rename_i b hb;split
    ·exact Or.inr ⟨x,cM .., hb⟩
    ·exact Or.inl rfl
  ·exact Or.inr ⟨y,bN _ hy,h⟩
def Tz(p:ig):Bool:=decide ((300:Int)<(p.1.size:Int)+(p.2.size:Int))
def M5(ps:List ig):Bool:=decide (ps.length<=40)&&!(ps.any Tz)
def Q4:aZ->ig
 |[.string a,.string b]=>(a,b)
 |_=>(ByteArray.empty,ByteArray.empty)
theorem abB(v:Value)(ps:List ig)(w:World)(hv:oX w v ps)(hl:ps.length<=140737488355328)(hz:∀p∈ps,p.1.size<=140737488351232/\p.2.size<=140737488351232) :
  aB 83 #[v] w fun e w'=>e=.returned (.bool (M5 ps))/\Fr aS w w':=by
 obtain⟨av,cv,fO⟩:=hv.form;rw[ai]at fO;subst fO;have Np:=O (CS _ #[] (fun x=>Tz (Q4 x)) _ _ w call151 (fun x hx u _=>by
  obtain⟨p,hp,rfl⟩:=bZ.1 hx;exact XY p.1 p.2 u (hz p hp).1 (hz p hp).2) hv)
 have jv:=O (show(ps.map ig.cells).any (fun x=>Tz (Q4 x))=ps.any Tz by rw[List.any_map];rfl);by_cases Il:ps.length<=40
 ·have hb:=O (show M5 ps=!(ps.any Tz)by unfold M5;rw[bJ Il];rfl);have i40:(ps.length:Int)<=40:=ab;have d40:decide ((ps.length:Int)<=40)=true:=bJ i40;go_enter func83,ntmps83;go_wp2_with fail
  refine Np.o.mono ?_;rw[jv.o];rintro e u⟨rfl,hf⟩;go_wp2;go_ret;exact⟨fF hb.o.symm,hf⟩
 ·have hb:=O (show M5 ps=false by unfold M5;rw[bj Il];rfl);have i40:¬(ps.length:Int)<=40:=ab;have d40:decide ((ps.length:Int)<=40)=false:=bj i40;go_enter func83,ntmps83;go_wp2;go_ret;exact⟨fF hb.o.symm,ae _ _⟩
def ug(l:Bs):Bs:=if l.getLast?=some 13 then l.dropLast else l
def trimB(l:Bs):Bs:=Lib.trimS l [32,9]
def Dy(l:Bs):Option (Option jF) :=
 if(ug l).isEmpty then some none
 else if !(mL 58 (ug l)).2.2||!Bc (mL 58 (ug l)).1 then none
 else some (some ((mL 58 (ug l)).1,trimB (mL 58 (ug l)).2.1))
def lf:List Bs->List jF->Except Nat (List jF)
 |[],acc=>.ok acc
 |l :: ls,acc =>
  match Dy l with
  |none=>.error 3
  |some none=>lf ls acc
  |some (some p)=>if acc.length=40 then .error 4 else lf ls (acc++[p])
def mW(s:Bs):Except Nat (List jF):=if 3000<s.length then .error 4 else lf (eh 10 s) []
def yA(ps:List jF)(n:Bs):List Bs:=(ps.filter fun p=>dL p.1 n).map (·.2)
def lH(ps:List jF)(n:Bs):Bs:=Lib.join (yA ps n) [44,32]
def qM(ps:List jF)(n:Bs):Bool:=!(yA ps n).isEmpty
theorem Zg(x y:Bs)(l:List Bs)(sep:Bs):Lib.join (x :: y :: l) sep=x++(sep++Lib.join (y :: l) sep):=by
 simp[Lib.join,List.intercalate]
def rp:Bs:=[65,99,99,101,115,115,45,67,111,110,116,114,111,108,45,65,108,108,111,119,45,79,114,105,103,105,110]
def KU:Bs:=[65,99,99,101,115,115,45,67,111,110,116,114,111,108,45,65,108,108,111,119,45,67,114,101,100,101,110,116,105,97,108,115]
def KV:Bs:=[65,99,99,101,115,115,45,67,111,110,116,114,111,108,45,65,108,108,111,119,45,77,101,116,104,111,100,115]
def yB:Bs:=[65,99,99,101,115,115,45,67,111,110,116,114,111,108,45,65,108,108,111,119,45,72,101,97,100,101,114,115]
def ID:Bs:=[65,99,99,101,115,115,45,67,111,110,116,114,111,108,45,77,97,120,45,65,103,101]
def NI(t:Bs)(f_:Bool)(ps:List jF):Bool :=
 if !qM ps rp then false
 else if(lH ps rp== [42])&&!f_ then true
 else if lH ps rp !=t then false
 else !f_||(lH ps KU==mf)
def nu(ps:List jF):Int:=if qM ps ID then(if oW (lH ps ID)then min (zB (lH ps ID)) 600 else 5)else 5
theorem NJ(ps:List jF):0<=nu ps/\nu ps<=600/\(qM ps ID=true\/nu ps=5):=by
 unfold nu;split
 ·rename_i h;split
  ·rename_i hd;unfold oW at hd;simp only[cy]at hd;have:=yw (lH ps ID) 0 hd.2 ag ag;unfold zB;exact⟨ab,ab,Or.inl h⟩
  ·exact⟨ag,ag,Or.inl h⟩
 ·exact⟨ag,ag,Or.inr rfl⟩
def lp(ps:List jF)(n:Bs):Option (List Bs) :=
 match ia (lH ps n)with
 | .error _=>none
 | .ok l=>if 40<l.length then none else some l
def qA(ps:List ez)(p:ez):List ez:=if ps.any (fun q=>q.lz p)then ps else ps++[p]
def rm.Dz(r:rm)(qh:Int)(m h:aj):ez:=⟨r.dt,r.o,r.path,r.query,r.f_,m,h,qh⟩
def rm.methods(r:rm)(ms:List Bs):List aj:=if ms.isEmpty then [jT r.method]else ms.map bA
def rm.bG(r:rm)(qh:Int)(ms hs:List Bs):List ez :=
 (hs.map fun h=>r.Dz qh (bA []) (bA (nD h))).foldl qA ((r.methods ms |>.map fun m=>r.Dz qh m (bA [])).foldl qA [])
def uO(r:rm)(t:Bs)(ps:List jF)(now:Int):Except Nat (List ez) :=
 match lp ps KV,lp ps yB with
 |some ms,some hs =>
  if !NI t r.f_ ps then .error 6
  else if !r.nt (r.bG (now+nu ps) ms hs)then .error 6
  else .ok (r.bG (now+nu ps) ms hs)
 |_,_=>.error 3
def xZ(n p:Nat)(e:Ending)(w':World):Prop :=
 ∃g,e=.returned (.iface 211 (.pointer (some ⟨g,0,none⟩)))/\w'.heap[g]?=some (.cells #[.int .i64 n,.int .i64 p] 213 (0,0))
theorem xZ.new(n p:Nat)(w:World):xZ n p (.returned (.iface 211 (.pointer (some ⟨w.heap.size,0,none⟩)))) (w.alloc (.cells #[.int .i64 n,.int .i64 p] 213 (0,0))):=⟨_,rfl,aC _ _⟩
theorem uh(b c i n:Nat)(s:aj)(v:Value)(w:World)(hr:iR w b c s v)(h:dz w c s i) :
  aB 167 #[.pointer (some ⟨b,0,none⟩),.int .i64 n] w fun e w'=>xZ n i e w'/\Fr aS w w':=by
 have q0:=hr.cell0;go_enter func167,ntmps167;go_wp2_with fail
 refine(Bb c s i w h).mono ?_;rintro e w1⟨rfl,rfl⟩;go_wp2;go_ret;exact⟨xZ.new n i w,(ae _ _).alloc _⟩
theorem mY(l:Bs):(bA l).toList=l:=toList_mk l
def oG(p:jF):aZ:=[.string (bA p.1),.string (bA p.2)]
def kU(w:World)(x:Nat)(sc tok:aj)(pv:Value):Prop:=w.heap[x]?=some (.cells #[.string sc,.string tok,pv] 198 (0,0))
section
variable {w w' : World} {x : Nat} {sc tok : ByteArray} {pv : Value}
theorem kU.cell0(h:kU w x sc tok pv):w.cell? ⟨x,0,none⟩=some (.string sc):=by simp[World.cell?,show w.heap[x]?=_ from h]
theorem kU.ib(h:kU w x sc tok pv):w.cell? ⟨x,1,none⟩=some (.string tok):=by simp[World.cell?,show w.heap[x]?=_ from h]
theorem kU.mg(h:kU w x sc tok pv):w.cell? ⟨x,2,none⟩=some pv:=by simp[World.cell?,show w.heap[x]?=_ from h]
theorem kU.free(h:kU w x sc tok pv)(k:Nat):w.frozen? ⟨x,k,none⟩=false:=by simp[World.frozen?,show w.heap[x]?=_ from h]
theorem kU.fr{S:dF}(h:kU w x sc tok pv)(hf:Fr S w w')(hn:¬S x):kU w' x sc tok pv:=hf.keep h hn
theorem kU.lt(h:kU w x sc tok pv):x<w.heap.size:=bq h
theorem kU.ne(h:kU w x sc tok pv)(g:dz w c t i):x≠c:=by
 intro e;subst e;have h':w.heap[x]?=_:=h;have g':w.heap[x]?=_:=g;rw[h']at g';simp at g'
theorem kU.neR(h:kU w x sc tok pv)(g:iR w b c t v):x≠b:=by
 intro e;subst e;have h':w.heap[x]?=_:=h;have g':w.heap[x]?=_:=g;rw[h']at g';simp at g'
end
theorem OwnRows.Ca(h:OwnRows base e k w v xs)(hg:v.ownBlock=some g):∃cur,w.heap[g]?=some (.cells cur e (0,0)):=by
 rcases h.2.2 with ⟨hv,_⟩|⟨g',cap,cur,hv,_,hh,_⟩
 ·rw[hv]at hg;simp[Value.ownBlock]at hg
 ·rw[hv]at hg;simp[Value.ownBlock]at hg;subst hg;exact⟨cur,hh⟩
theorem OwnRows.not{t:TypeId}{cs:bT}{f:Nat×Nat}(h:OwnRows base e k w v xs)(hb:w.heap[g]?=some (.cells cs t f))(ht:t≠e):v.ownBlock≠some g:=by
 intro hg;obtain⟨cur,hc⟩:=h.Ca hg;rw[hc]at hb;cases hb;exact ht rfl
def x_(w:World)(x:Nat)(a b:aj):Prop:=w.heap[x]?=some (.cells #[.string a,.string b] 171 (0,0))
def IJ(c x:Nat)(pv:Value):dF:=fun k=>k=c\/k=x\/pv.ownBlock=some k
def ou(base c x i:Nat)(s:aj)(ps:List jF)(sc tok:aj)(pv:Value)(w:World)(e:Ending)(w':World):Prop :=
 Fr (IJ c x pv) w w'/\match lo ps (s.data.toList.drop i)with
  | .error n=>∃p,xZ n p e w'
  | .ok q=>e=.returned .nilIface/\∃j zh,j<=s.size/\dz w' c s j/\s.data.toList.drop j=q.2/\kU w' x sc tok zh/\OwnRows base 171 2 w' zh ((ps++[q.1]).map oG)
theorem ou.bad{x n p:Nat}{s:aj}{sc tok:aj}{pv:Value}{w':World}{e:Ending}(h:lo ps (s.data.toList.drop i)=.error n)(hf:Fr (IJ c x pv) w w')(he:xZ n p e w'):ou base c x i s ps sc tok pv w e w':=by
 refine⟨hf,?_⟩;rw[h];exact⟨p,he⟩
theorem IK(s:aj)(i:Nat):s.data.toList.drop (eN s (eN s (J0 s i)+1))=nN (s.data.toList.drop i):=by
 unfold nN;rw[<-wK, <-oY s (J0 s i),eD,oY]
def adH(base b c x P i:Nat)(s:aj)(v:Value)(ps:List jF)(sc tok:aj)(pv:Value)(W:Bs)(w wx:World):Prop :=
 ∃val j,j<=s.size/\dz wx c s j/\x_ wx P (bA W) (bA val)/\iR wx b c s v/\kU wx x sc tok pv/\OwnRows base 171 2 wx pv (ps.map oG)/\Fr (IJ c x pv) w wx /\
  lo ps (s.data.toList.drop i)=(if uH ps W then .error 9 else if ps.length=16 then .error 4 else .ok ((W,val),s.data.toList.drop j))
theorem Rq(l:Bs)(k:Nat):gR l k=(Be (l.drop k)).map fun q=>(q.1,l.length-q.2.length):=by
 unfold gR;rcases eS k l.length with h|h
 ·rw[List.getElem?_eq_getElem h,cX h];show _=Option.map _ (if l[k]==34 then v8 (l.drop (k+1))else none);by_cases hq:l[k]=34
  ·rw[hq,az rfl,az bD];unfold tI;simp
  ·rw[aq (by simpa using hq),aq (by simpa using hq)];rfl
 ·rw[List.getElem?_eq_none h,cV h,aq aR];rfl
theorem Qd(l:Bs):(bA l).size=l.length:=rfl
def ahM(ps:List jF)(W:Bs)(w:World)(t:Value)(wr:World):Prop:=∃k:Nat,k<=ps.length/\t=.int .i64 k/\(ps.take k).any (fun q=>dL q.1 W)=false/\Fr aS w wr
theorem wL{v:Bs}(h:ps[k]?=some (n,v))(hn:(ps.take k).any (fun q=>dL q.1 W)=false)(hp:dL n W=false):(ps.take (k+1)).any (fun q=>dL q.1 W)=false:=by
 rw[cj,h];simp only[List.any_append,hn,Option.toList_some,List.any_cons,hp,List.any_nil,Bool.or_false]
theorem UP{v:Bs}(h:ps[k]?=some (n,v))(hp:dL n W=true):uH ps W=true:=by
 unfold uH;rw[List.any_eq_true];exact⟨_,bQ h,hp⟩
theorem La:(prog.info? 171).map (fun i=>(i.zero,i.size,i.bytes))=some (some (.agg #[.string ⟨#[]⟩,.string ⟨#[]⟩]),2,32):=af
theorem Qe(p:jF):∀u∈oG p,u.oneCell'=true:=by
 intro u hu;simp only[oG,bC,cA,dY]at hu;rcases hu with rfl|rfl<;>rfl
theorem UQ(ps:List jF):∀x∈ps.map oG,x.length=2/\∀u∈x,u.oneCell'=true:=by
 intro x hx;obtain⟨p,_,rfl⟩:=bZ.1 hx;exact⟨rfl,Qe p⟩
theorem yD:∀(f:Nat) (r a z:Bs),r.length<=f->v8 r=some (a,z)->z <:+ r
 |0,r,a,z,hf,h=>by
  have:r=[]:=ct ab;subst this;rw[v8.eq_def]at h;simp at h
 |f+1,[],a,z,hf,h=>by rw[v8.eq_def]at h;simp at h
 |f+1,x :: r,a,z,hf,h=>by
  rw[v8.eq_def]at h;simp only at h;by_cases h1:(x==34)=true
  ·rw[az h1]at h;cases h;exact jI _ _
  ·rw[aq h1]at h;by_cases h2:(x==92)=true
   ·rw[az h2]at h;cases r with
    |nil=>simp at h
    |cons y r' =>
     simp only at h;by_cases h3:nE y=true
     ·rw[az h3]at h;cases hq:v8 r' with
      |none=>rw[hq]at h;simp at h
      |some p =>
       rw[hq]at h;simp at h;obtain⟨rfl,rfl⟩:=h;have:=yD f r' p.1 p.2 (by simp at hf;omega) hq;exact(this.trans (jI _ _)).trans (jI _ _)
     ·rw[aq h3]at h;simp at h
   ·rw[aq h2]at h;by_cases h3:nE x=true
    ·rw[az h3]at h;cases hq:v8 r with
     |none=>rw[hq]at h;simp at h
     |some p =>
      rw[hq]at h;simp at h;obtain⟨rfl,rfl⟩:=h;have:=yD f r p.1 p.2 (by simp at hf;omega) hq;exact this.trans (jI _ _)
    ·rw[aq h3]at h;simp at h
theorem Lb(h:z <:+ l):l.drop (l.length-z.length)=z:=by
 obtain⟨t,rfl⟩:=h;rw[aK,Nat.add_sub_cancel,List.drop_left'];rfl
theorem Lc{a:Bs}(h:Be (l.drop k)=some (a,z)):l.drop (l.length-z.length)=z:=by
 refine Lb (List.IsSuffix.trans ?_ (List.drop_suffix k l));cases hd:l.drop k with
 |nil=>rw[hd]at h;cases h
 |cons c t =>
  rw[hd]at h;have h':(if c==34 then v8 t else none)=some (a,z):=h;by_cases hc:(c==34)=true
  ·rw[az hc]at h';exact(yD _ t a z (ay _) h').trans (jI _ _)
  ·rw[aq hc]at h';cases h'
theorem Rr(base b c x i:Nat)(s:aj)(v:Value)(ps:List jF)(sc tok:aj)(pv:Value)(w:World)(hr:iR w b c s v)(h:dz w c s i)(hx:kU w x sc tok pv)(ho:OwnRows base 171 2 w pv (ps.map oG))(hb:base<=w.heap.size)
  (hs:s.size<100000)(hi:i<=s.size)(hl:ps.length<=16)(hz:∀p∈ps,p.1.length<100000) :
  aB 170 #[.pointer (some ⟨b,0,none⟩),.pointer (some ⟨x,0,none⟩)] w (ou base c x i s ps sc tok pv w):=by
 have hm:s.size<=maxLen:=ft;have hbc:=hr.ne h;have hxc:=hx.ne h;have Zp:=hx.neR hr;have C4:pv.ownBlock≠some c:=ho.not h ag;have DH:pv.ownBlock≠some x:=ho.not hx ag;have hob:pv.ownBlock≠some b:=ho.not hr ag;have q0:=hr.cell0;have HN:=O (K_ s i);have HV:=O (IK s i);have hw:=IH hi;have hk:=yC hw;have Rs:=(show lo ps (s.data.toList.drop i)=if !lT (s.data.toList.drop i)then .error 3 else
   match pT (nN (s.data.toList.drop i))with
   |none=>.error 3
   |some q=>if uH ps (ic (s.data.toList.drop i))then .error 9 else if ps.length=16 then .error 4 else .ok ((ic (s.data.toList.drop i),q.1),q.2)from rfl)
 have hPR:=O Rs;clear Rs;have Fq:(ic (s.data.toList.drop i)).length<=s.size:=by
  have:=rE (s.data.toList.drop i);simp at this;omega
 go_enter func170,ntmps170;go_wp2_with fail
 refine(Bb c s i w h).mono ?_;rintro e w0⟨rfl,rfl⟩;go_wp2_with fail
 refine(wj c s i w h hm hi).mono ?_;rintro e w1⟨rfl,pK,dk⟩;replace pK:dz w1 c s (J0 s i):=pK;rw[show s.extract i (cQ gq s.data.toList i)=bA (ic (s.data.toList.drop i))from zK s i];generalize ic (s.data.toList.drop i)=W at *
 generalize J0 s i=K1 at *
 have zg:=hr.one h dk;have mU:=hx.fr dk hxc;have Bi:=ho.fr dk (fun k hk e=>C4 (by rw[hk];exact ar some e));have ln:=O (show Fr (IJ c x pv) w w1 from dk.mono (fun k _ e=>Or.inl e));have q1:=zg.cell0;have q1a:∀o:Obj,(w1.alloc o).cell? ⟨b,0,none⟩=some (.pointer (some ⟨c,0,none⟩)):=fun o=>(zg.fr ((ae aS w1).alloc o) id).cell0;clear q0 dk;go_wp2_with fail
 obtain⟨wp,hwp⟩:∃wp,wp=w1.alloc (.cells #[.string (bA W),.string ⟨#[]⟩] 171):=⟨_,rfl⟩;have hpp:x_ wp w1.heap.size (bA W) ⟨#[]⟩:=by rw[hwp];exact aC _ _
 have dE:Fr aS w1 wp:=by rw[hwp];exact(ae _ _).alloc _
 have oF:=zg.fr dE id;have sR:=pK.fr dE id;have Qf:=mU.fr dE id;have rk:=Bi.fr dE (fun _ _ h=>h);have fU:=O (ln.o.trans dE.nv);have q2:=oF.cell0;rw[<-hwp];generalize hP:w1.heap.size=P at *
 have Zq:P≠c:=by intro e;have:=pK.lt;omega
 have hPx:P≠x:=by intro e;have:=mU.lt;omega
 have hPb:P≠b:=by intro e;have:=zg.lt;omega
 have hPw:w.heap.size<=P:=by have:=ln.o.size;omega
 have auU:P<wp.heap.size:=bq hpp;have hoP:pv.ownBlock≠some P:=fun e=>by have:=Bi.lt P e;omega
 clear q1 q1a hwp dE;refine(mI c s K1 wp sR hm hw).mono ?_;rintro e w3⟨rfl,uG,iz⟩;replace uG:dz w3 c s (eN s K1):=uG;generalize eN s K1=K2 at *
 have rP:=oF.one sR iz;have ya:=Qf.fr iz hxc;have yz:=rk.fr iz (fun k hk e=>C4 (by rw[hk];exact ar some e));have hp3:x_ w3 P (bA W) ⟨#[]⟩:=iz.keep hpp Zq;have il:=O (fU.o.trans (iz.mono (fun k _ e=>Or.inl e)));have q3:=rP.cell0;have p0:w3.cell? ⟨P,0,none⟩=some (.string (bA W)):=by simp[World.cell?,show w3.heap[P]?=_ from hp3]
 clear q2 iz zg mU Bi oF Qf rk hpp pK sR;cases Qg:W.isEmpty
 case true =>
  have DI:(bA W).toList=[]:=by rw[mY];exact gK.1 Qg
  have AY:((bA W).toList== [])=true:=dX.2 DI;rw[Qg]at HN;have HE:=O (show lo ps (s.data.toList.drop i)=.error 3 by rw[hPR.o,HN.o];rfl);go_wp2_with fail
  refine(uh b c K2 3 s v w3 rP uG).mono ?_;rintro e w4⟨⟨g,rfl,hg⟩,kS⟩;go_wp2;go_ret;exact ou.bad HE.o (il.o.trans kS.nv) ⟨g,rfl,hg⟩
 case false =>
  have DI:¬(bA W).toList=[]:=by rw[mY];intro e;rw[e]at Qg;cases Qg
  have AY:((bA W).toList== [])=false:=aO.2 DI;have HN2:=O (show lT (s.data.toList.drop i)=kx s K2 61 by rw[HN.o,Qg];rfl);clear HN Qg;go_wp2_with fail
  refine(qp c s K2 61 w3 uG hm).mono ?_;rintro e w4⟨rfl,uD,kS⟩;have wh:=rP.one uG kS;have Zr:=ya.fr kS hxc;have TK:=yz.fr kS (fun k hk e=>C4 (by rw[hk];exact ar some e));have hp4:x_ w4 P (bA W) ⟨#[]⟩:=kS.keep hp3 Zq;have j6:=O (il.o.trans (kS.mono (fun k _ e=>Or.inl e)));have q4:=wh.cell0;have p0:w4.cell? ⟨P,0,none⟩=some (.string (bA W)):=by simp[World.cell?,show w4.heap[P]?=_ from hp4]
  clear q3 kS rP ya yz hp3 uG;cases P6:kx s K2 61
  ·have HE:=O (show lo ps (s.data.toList.drop i)=.error 3 by rw[hPR.o,HN2.o,P6];rfl);rw[pM P6]at uD;go_wp2_with fail
   refine(uh b c K2 3 s v w4 wh uD).mono ?_;rintro e w5⟨⟨g,rfl,hg⟩,lN⟩;go_wp2;go_ret;exact ou.bad HE.o (j6.o.trans lN.nv) ⟨g,rfl,hg⟩
  ·rw[pL P6]at uD;rw[HN2.o,P6]at hPR;have sH:K2+1<=s.size:=by
    have:=(List.getElem?_eq_some_iff.1 ((xv s K2 61).1 P6)).1;have h2:K2<s.size:=by simpa using this
    omega
   go_wp2_with fail
   refine(mI c s (K2+1) w4 uD hm sH).mono ?_;rintro e w5⟨rfl,uE,lN⟩;replace uE:dz w5 c s (eN s (K2+1)):=uE;have IL:=yC sH;generalize eN s (K2+1)=K3 at *
   rw[<-HV.o]at hPR;have yb:=wh.one uD lN;have hx5:=Zr.fr lN hxc;have Nh:=TK.fr lN (fun k hk e=>C4 (by rw[hk];exact ar some e));have hp5:x_ w5 P (bA W) ⟨#[]⟩:=lN.keep hp4 Zq;have v_:=O (j6.o.trans (lN.mono (fun k _ e=>Or.inl e)));have q5:=yb.cell0;clear q4 p0 lN wh Zr TK hp4 uD;go_wp2_with fail
   refine(wj c s K3 w5 uE hm IL).mono ?_;rintro e w6⟨rfl,Ni,nL⟩;replace Ni:dz w6 c s (J0 s K3):=Ni;rw[show s.extract K3 (cQ gq s.data.toList K3)=bA (ic (s.data.toList.drop K3))from zK s K3];have Ld:=IH IL
   have HVR:=O (show pT (s.data.toList.drop K3)=if(ic (s.data.toList.drop K3)).isEmpty then Be (s.data.toList.drop K3)else some (ic (s.data.toList.drop K3),s.data.toList.drop (J0 s K3))by unfold pT;rw[wK]);have TM:=O (show(ic (s.data.toList.drop K3)).isEmpty=true->J0 s K3=K3 from fun e=>by
    unfold J0 cQ;have e2:(List.takeWhile gq (s.data.toList.drop K3))=[]:=gK.1 e;rw[e2];rfl)
   generalize ic (s.data.toList.drop K3)=V at *
   generalize J0 s K3=K4 at *
   have J1:=yb.one uE nL;have hx6:=hx5.fr nL hxc;have zN:=Nh.fr nL (fun k hk e=>C4 (by rw[hk];exact ar some e));have hp6:x_ w6 P (bA W) ⟨#[]⟩:=nL.keep hp5 Zq;have xo:=O (v_.o.trans (nL.mono (fun k _ e=>Or.inl e)));have p1:w6.cell? ⟨P,1,none⟩=some (.string ⟨#[]⟩):=by simp[World.cell?,show w6.heap[P]?=_ from hp6]
   have f1:w6.frozen? ⟨P,1,none⟩=false:=by simp[World.frozen?,show w6.heap[P]?=_ from hp6]
   clear q5 nL yb hx5 Nh hp5 uE
   go_upto_if 52 with fail
   have NP:∀u:aj,x_ (w6.setCell ⟨P,1,none⟩ (.string u)) P (bA W) u:=fun u=>cq hp6 1 (.string u);have GA:∀u:Value,Fr (one P) w6 (w6.setCell ⟨P,1,none⟩ u):=fun u=>(ae (one P) w6).setCell (p:=⟨P,1,none⟩) (fun _=>rfl) u;have GB:=O (show∀u:Value,Fr (IJ c x pv) w (w6.setCell ⟨P,1,none⟩ u)from fun u=>xo.o.step (GA u) (fun k hk e=>by have e':k=P:=e;omega))
   have HS:=O (show∀u:Value,iR (w6.setCell ⟨P,1,none⟩ u) b c s v/\dz (w6.setCell ⟨P,1,none⟩ u) c s K4/\kU (w6.setCell ⟨P,1,none⟩ u) x sc tok pv/\OwnRows base 171 2 (w6.setCell ⟨P,1,none⟩ u) pv (ps.map oG)from fun u =>
    ⟨J1.fr (GA u) (fun e=>hPb (show b=P from e).symm),Ni.fr (GA u) (fun e=>Zq (show c=P from e).symm),hx6.fr (GA u) (fun e=>hPx (show x=P from e).symm),zN.fr (GA u) (fun k hk e=>hoP (by rw[hk];exact ar some e))⟩)
   go_cut [] (fun wx=>adH base b c x P i s v ps sc tok pv W w wx)
   case first =>
    obtain⟨TN,Zs,hx7,Zt⟩:=HS.o (.string (bA V));have Zu:=NP (bA V);cases hVe:V.isEmpty
    case false =>
     have FC:¬(bA V).toList=[]:=by rw[mY];intro e;rw[e]at hVe;cases hVe
     have hv2:((bA V).toList== [])=false:=aO.2 FC;have BX:(bA V).toList.isEmpty=false:=by rw[mY];exact hVe
     have UR:=O (show pT (s.data.toList.drop K3)=some (V,s.data.toList.drop K4)by rw[HVR.o,hVe];rfl);rw[BX];go_wp2_with fail
     go_meet
     refine⟨V,K4,Ld,Zs,Zu,TN,hx7,Zt,GB.o _,?_⟩;rw[hPR.o,UR.o];rfl
    case true =>
     have BX:(bA V).toList.isEmpty=true:=by rw[mY];exact hVe
     have hK4:=TM.o hVe;subst hK4;have q7:=TN.cell0;have p71:(w6.setCell ⟨P,1,none⟩ (.string (bA V))).cell? ⟨P,1,none⟩=some (.string (bA V)):=by simp[World.cell?,show(w6.setCell ⟨P,1,none⟩ (.string (bA V))).heap[P]?=_ from Zu]
     rw[BX];go_wp2_with fail
     refine(Nv c s K4 _ Zs ab).mono ?_;intro e w8 hq;have HQA:=O (Rq s.data.toList K4);cases hqr:Be (s.data.toList.drop K4)with
     |none =>
      have hqa:gR s.data.toList K4=none:=by rw[HQA.o,hqr];rfl
      obtain⟨rfl,hc8,rQ⟩:=hq.isNone hqa;have UR:=O (show pT (s.data.toList.drop K4)=none by rw[HVR.o,hVe];exact hqr);have US:=TN.one Zs rQ;have hp8:x_ w8 P (bA W) (bA V):=rQ.keep Zu Zq;have NQ:=O ((GB.o (.string (bA V))).trans (rQ.mono (fun k _ e=>Or.inl e)));have DJ:Fr (one P) w8 (w8.setCell ⟨P,1,none⟩ (.string ⟨#[]⟩)):=(ae (one P) w8).setCell (p:=⟨P,1,none⟩) (fun _=>rfl) _
      have hr9:=US.fr DJ (fun e=>hPb (show b=P from e).symm);have hc9:=hc8.fr DJ (fun e=>Zq (show c=P from e).symm);have Yk:=O (show Fr (IJ c x pv) w (w8.setCell ⟨P,1,none⟩ (.string ⟨#[]⟩))from NQ.o.step DJ (fun k hk e=>by have e':k=P:=e;omega));have q8:=US.cell0;have q9:=hr9.cell0;have p8:w8.cell? ⟨P,1,none⟩=some (.string (bA V)):=by simp[World.cell?,show w8.heap[P]?=_ from hp8]
      have f8:w8.frozen? ⟨P,1,none⟩=false:=by simp[World.frozen?,show w8.heap[P]?=_ from hp8]
      clear q7 p71 hq rQ DJ;go_wp2_with fail
      refine(uh b c K4 3 s v _ hr9 hc9).mono ?_;rintro e w10⟨⟨g,rfl,hg⟩,NR⟩;go_wp2;go_ret;exact ou.bad (by rw[hPR.o,UR.o];rfl) (Yk.o.trans NR.nv) ⟨g,rfl,hg⟩
     |some q =>
      obtain⟨a,z⟩:=q;have hqa:gR s.data.toList K4=some (a,s.data.toList.length-z.length):=by rw[HQA.o,hqr];rfl
      obtain⟨rfl,hc8,rQ⟩:=hq.isOk hqa;have UR:=O (show pT (s.data.toList.drop K4)=some (a,z)by rw[HVR.o,hVe];exact hqr);have hzd:=O (Lc hqr);have US:=TN.one Zs rQ;have hx8:=hx7.fr rQ hxc;have TP:=Zt.fr rQ (fun k hk e=>C4 (by rw[hk];exact ar some e));have hp8:x_ w8 P (bA W) (bA V):=rQ.keep Zu Zq;have NQ:=O ((GB.o (.string (bA V))).trans (rQ.mono (fun k _ e=>Or.inl e)))
      have DJ:Fr (one P) w8 (w8.setCell ⟨P,1,none⟩ (.string (bA a))):=(ae (one P) w8).setCell (p:=⟨P,1,none⟩) (fun _=>rfl) _;have hr9:=US.fr DJ (fun e=>hPb (show b=P from e).symm);have hc9:=hc8.fr DJ (fun e=>Zq (show c=P from e).symm);have hx9:=hx8.fr DJ (fun e=>hPx (show x=P from e).symm);have Zv:=TP.fr DJ (fun k hk e=>hoP (by rw[hk];exact ar some e))
      have hp9:x_ (w8.setCell ⟨P,1,none⟩ (.string (bA a))) P (bA W) (bA a):=cq hp8 1 (.string (bA a));have Yk:=O (show Fr (IJ c x pv) w (w8.setCell ⟨P,1,none⟩ (.string (bA a)))from NQ.o.step DJ (fun k hk e=>by have e':k=P:=e;omega));have p8:w8.cell? ⟨P,1,none⟩=some (.string (bA V)):=by simp[World.cell?,show w8.heap[P]?=_ from hp8]
      have f8:w8.frozen? ⟨P,1,none⟩=false:=by simp[World.frozen?,show w8.heap[P]?=_ from hp8]
      clear q7 p71 hq rQ DJ;go_wp2_with fail
      go_meet
      refine⟨a,_,?_,hc9,hp9,hr9,hx9,Zv,Yk.o,?_⟩
      ·simp
      ·rw[hPR.o,UR.o,show s.data.toList.drop (s.data.toList.length-z.length)=z from hzd.o];rfl
   case rest =>
   obtain⟨val,j,hj,Zs,Zu,TN,hx7,Zt,nO,zi⟩:=hcut;have J2:=O zi;have Zw:=O nO;clear hPR zi nO HVR TM NP GA GB HS J1 hx6 zN hp6 Ni p1 f1;have UT:w.heap.size<=wc.heap.size:=Zw.o.size;have iL:base<=wc.heap.size:=aE hb UT;have TI:=Zt.form;obtain⟨av,cv,ahQ⟩:=TI;rw[ai]at ahQ;subst ahQ;have ml:=Zt.at;have x2:=hx7.mg;have xf2:=hx7.free 2
   have p0:wc.cell? ⟨P,0,none⟩=some (.string (bA W)):=by simp[World.cell?,show wc.heap[P]?=_ from Zu]
   have p1:wc.cell? ⟨P,1,none⟩=some (.string (bA val)):=by simp[World.cell?,show wc.heap[P]?=_ from Zu]
   have HPA:=O (show∀U,Fr aS wc U->U.cell? ⟨P,0,none⟩=some (.string (bA W))/\U.cell? ⟨P,1,none⟩=some (.string (bA val))/\U.cell? ⟨x,2,none⟩=some (.slice av ps.length cv)/\U.frozen? ⟨x,2,none⟩=false from fun U hU=>by
    have j1:=hU.keep Zu id;have j2:=hx7.fr hU id;exact⟨by simp[World.cell?,j1],by simp[World.cell?,j1],j2.mg,j2.free 2⟩)
   go_wp2_with fail
   go_loopw[71] (ahM ps W wc) (fun t _=>ps.length-(intOf t).toNat)
   case atStart=>exact⟨0,aL _,rfl,rfl,ae _ _⟩
   case round =>
    obtain⟨k,UN,rfl,hn,cP⟩:=hrel;have HN:=O hn;clear hn p0 p1 x2 xf2;obtain⟨p0,p1,x2,xf2⟩:=HPA.o wr cP;by_cases fe:k<ps.length
    ·have pE:(k:Int)<(ps.length:Int):=ab;have dS:=O (List.getElem?_eq_getElem fe);have Yl:=hz _ (bO fe);generalize ps[k]=q at dS Yl;obtain⟨nm,vl⟩:=q;rcases(bh ml cP).2 with ⟨_,_,_,e,_⟩|⟨bk,of,c',dk,h1,h2,h3,h4⟩
     ·have:ps.length=0:=by have:=ar List.length e;simpa using this
      omega
     rw[ai]at dk h1;cases dk;unfold maxLen at h2;have hcell:=h4 k (oG (nm,vl)) (by rw[List.getElem?_map,dS.o];rfl);have c0:wr.cell? ⟨bk,of+k*2,none⟩=some (.string (bA nm)):=hcell 0 _ rfl;have c1:wr.cell? ⟨bk,of+k*2+1,none⟩=some (.string (bA vl)):=hcell 1 _ rfl;clear hcell h4;obtain⟨wb,kj⟩:∃wb,wb=wr.alloc (.cells #[.string (bA nm),.string (bA vl)] 171):=⟨_,rfl⟩
     have kC:Fr aS wr wb:=by rw[kj];exact(ae aS wr).alloc _
     have p0a:∀o:Obj,(wr.alloc o).cell? ⟨P,0,none⟩=some (.string (bA W)):=fun o=>(HPA.o _ (cP.alloc o)).1;have ri:=O kj;have mF:=O (cP.trans kC);clear kj kC;go_wp2_with fail
     rw[<-ri.o];refine(mH (bA nm) (bA W) wb (by rw[Qd];have auZ:nm.length<100000:=Yl;omega) (by rw[Qd];omega)).mono ?_;rintro e w8⟨rfl,rQ⟩;rw[fZ,fZ];have NQ:=O (mF.o.trans rQ);cases pz:dL nm W
     ·have qt:=O (show(ps.take (k+1)).any (fun q=>dL q.1 W)=false from wL dS.o HN.o pz);go_wp2;go_roundw
      case rel=>exact⟨k+1,ab,bg,qt.o,NQ.o⟩
      case measure=>simp[intOf];omega
     ·have HE:=O (show lo ps (s.data.toList.drop i)=.error 9 by rw[J2.o,az (UP dS.o pz)]);go_wp2;go_ret;exact ou.bad HE.o ((Zw.o.trans NQ.o.nv).alloc _) (xZ.new 9 i w8)
    ·have pE:¬(k:Int)<(ps.length:Int):=ab;have HT:=O (show uH ps W=false by have h:=HN.o;rw[aD ab]at h;exact h);rw[HT.o]at J2;by_cases h16:ps.length=16
     ·have ahR:((ps.length:Int)==16)=true:=by rw[h16];rfl
      have HE:=O (show lo ps (s.data.toList.drop i)=.error 4 by rw[J2.o,az h16];rfl);clear h16;go_wp2;go_ret;exact ou.bad HE.o ((Zw.o.trans cP.nv).alloc _) (xZ.new 4 i wr)
     ·have ahR:((ps.length:Int)==16)=false:=aO.2 ab;have HE:=O (show lo ps (s.data.toList.drop i)=.ok ((W,val),s.data.toList.drop j)by rw[J2.o,aq h16];rfl);have UU:=Zw.o.trans (cP.nv (S:=IJ c x (.slice av ps.length cv)));have hcr:=Zs.fr cP id;have hxr:=hx7.fr cP id;have hor:=Zt.fr cP (fun _ _ h=>h);have hbr:base<=wr.heap.size:=aE iL cP.size
      have cW:wr.ownsRow base 171 2 (.slice av ps.length cv) ps.length (ps.map oG).flatten:=by
       have hh:=hor.2;rw[ai]at hh;exact hh
      have hPl:P<wr.heap.size:=cK (bq Zu) cP.size;have oH:x<wr.heap.size:=hxr.lt;have xY:c<wr.heap.size:=hcr.lt;obtain⟨i0,qN,pD,ll,lF⟩:=info_parts La;have xJ:=O (show∀u∈oG (W,val),u.oneCell'=true from Qe _);have hps:ps.length<16:=ab;clear ahR ml hz HN;go_wp2_with fail
      go_region_law ((with_reducible refine mX ⟨some 102,_,_,_,_,_⟩ ?_)
                     refine step_append_lies _ bD _ _ _ bD base 171 i0 _ 2 32 underlying35 qN pD ll lF rfl ab (.slice av ps.length cv) ps.length _ bD (by repeat(first|exact cW|apply World.ownsRow.alloc|apply World.ownsRow.drew)) ⟨wr.heap.size,0,none⟩ 1 1 (oG (W,val)) bD bD (kY wr (oG (W,val)) _) xJ.o ab ft ab bH (wr.heap.size+1) aR ?_
                     intro gg cap w5 wM jJ UW adM
                     have rq:Fr (fun k=>(Value.slice av ps.length cv).ownBlock=some k) wr w5:=fy (by repeat(first|exact ae _ _|apply aA|apply bB)) jJ (fun _ hk _=>hk)
                     have k4:w5.cell? ⟨x,2,none⟩=some (.slice av ps.length cv):=(rq.cell (p:=⟨x,2,none⟩) oH DH).trans x2
                     have e4:w5.frozen? ⟨x,2,none⟩=false:=(rq.frozen (p:=⟨x,2,none⟩) oH DH).trans xf2)
      all_goals
       have hx5:kU w5 x sc tok (.slice av ps.length cv):=hxr.fr rq DH;have uE:dz w5 c s j:=hcr.fr rq C4;have Kw:Fr (one x) w5 (w5.setCell ⟨x,2,none⟩ (.slice (some ⟨gg,0,none⟩) (ps.length+1) cap)):=(ae (one x) w5).setCell (p:=⟨x,2,none⟩) (fun _=>rfl) _;have hx6:kU (w5.setCell ⟨x,2,none⟩ (.slice (some ⟨gg,0,none⟩) (ps.length+1) cap)) x sc tok (.slice (some ⟨gg,0,none⟩) (ps.length+1) cap):=cq hx5 2 _
       have Ni:=uE.fr Kw (fun e=>hxc (show c=x from e).symm);have hgx:gg≠x:=by
        rintro rfl;rcases UW with e|e
        ·exact DH e
        ·omega
       have Nh:OwnRows base 171 2 w5 (.slice (some ⟨gg,0,none⟩) (ps.length+1) cap) ((ps++[(W,val)]).map oG):=by
        refine⟨UQ _,?_⟩;have e1:((ps++[(W,val)]).map oG).length=ps.length+1:=aR;have e2:((ps++[(W,val)]).map oG).flatten=(ps.map oG).flatten++oG (W,val):=aR;rw[e1,e2];exact wM
       have zN:=Nh.fr Kw (fun k hk e=>hgx (by
        simp only[Value.ownBlock,eb]at hk;rw[hk];exact e))
       have Rt:=O (show Fr (IJ c x (.slice av ps.length cv)) w (w5.setCell ⟨x,2,none⟩ (.slice (some ⟨gg,0,none⟩) (ps.length+1) cap))from
        (UU.trans (rq.mono (fun k _ e=>Or.inr (Or.inr e)))).trans (Kw.mono (fun k _ e=>Or.inr (Or.inl e))))
       clear k4 e4 jJ wM cW rq;go_wp2;go_ret;refine⟨Rt.o,?_⟩;rw[HE.o];exact⟨rfl,j,_,hj,Ni,rfl,hx6,zN⟩
theorem N9(o:gG)(path query:aj)(w:World)(h1:path.size<100000)(h2:query.size<100000) :
  aB 52 #[.agg #[.bool o.aG,.string o.host,.int .i64 o.port,.string path,.string query]] w fun e w'=>e=.returned (.string (nQ path query))/\Fr aS w w':=by
 by_cases h0:query.size=0
 ·have HT:=O (show nQ path query=path by unfold nQ;rw[az h0]);have t1:query.toList=[]:=by rw[aP];exact hZ.2 h0
  have t2:query.toList.isEmpty=true:=by rw[t1];rfl
  go_enter func52,ntmps52;go_wp2;go_ret;exact⟨by rw[HT.o];rfl,(ae aS w).alloc _⟩
 ·have HT:=O (show nQ path query=(path++⟨#[63]⟩)++query by unfold nQ;rw[aq h0]);have t1:¬query.toList=[]:=by rw[aP];exact fun h=>h0 (hZ.1 h)
  have t2:query.toList.isEmpty=false:=by simpa using t1
  go_enter func52,ntmps52;go_wp2;go_ret;exact⟨by rw[HT.o];rfl,(ae aS w).alloc _⟩
