/- Lemmas for the law's walk. -/
import Derived.Test.YtjndhcngnghpiaaGreatDoorPo8
import Derived.Deep.AppendLies
set_option maxRecDepth 100000
set_option maxHeartbeats 16000000
set_option linter.unusedSimpArgs false
namespace Go.Proofs.YtjndhcngnghpiaaGreatDoor
open Go.Proofs.Tryz
open Go.RowKit
variable {c b k g base i:Nat} {w:World} {v:Value} {e:TypeId} {xs:cU} {t:ai} {ps:List jh} {n W z l:Bs}
structure nK where
 Mc:Bool
 cD:Bool
 aP:ai
 bz:ai
 eY:ai
 user:ai
 pass:ai
 method:ai
 target:ai
 body:ai
 bI:ai
 n:Nat
def iP:ai:=⟨#[97,117,116,104,45,105,110,116]⟩
def En(x:nK):ai:=if x.cD then kl x.Mc [kl x.Mc [x.user,x.aP,x.pass],x.bz,x.bI]else kl x.Mc [x.user,x.aP,x.pass]
def wQ(x:nK):ai:=if x.eY=iP then kl x.Mc [x.method,x.target,kl x.Mc [x.body]]else kl x.Mc [x.method,x.target]
def nX(x:nK):ai:=if x.eY=.empty then kl x.Mc [En x,x.bz,wQ x]else kl x.Mc [En x,x.bz,⟨(jl x.n).toArray⟩,x.bI,x.eY,wQ x]
theorem at_len(k:Nat){P:Program}{f:FuncId}{x:Value}{a:eZ}{W:World}{SI:Ending->World->Prop}(h:Calls P f #[x,.slice a k c] W SI):Calls P f #[x,.slice a k c] W SI:=h
theorem Z2:¬iP=.empty:=dp
theorem sg{ss:List ai}(h:ib w v ss):ib w.drew v ss:=h
theorem Z3(a:ai):(ku [a]).length=a.size:=by simp[ku,Lib.join,List.intercalate]
theorem Z4(a b:ai):(ku [a,b]).length=a.size+b.size+1:=by simp[ku,Lib.join,List.intercalate];omega
theorem Fh(a b c:ai):(ku [a,b,c]).length=a.size+b.size+c.size+2:=by simp[ku,Lib.join,List.intercalate];omega
theorem OB(a b c d e f:ai):(ku [a,b,c,d,e,f]).length=a.size+b.size+c.size+d.size+e.size+f.size+5:=by simp[ku,Lib.join,List.intercalate];omega
theorem ua(n:Nat):(⟨(jl n).toArray⟩:ai).size=8:=by show(jl n).toArray.size=8;simp[jl,nJ]
structure nK.Small (x:nK):Prop where
 aP:x.aP.size<=5000
 bz:x.bz.size<=5000
 eY:x.eY.size<=5000
 user:x.user.size<=5000
 pass:x.pass.size<=5000
 method:x.method.size<=5000
 target:x.target.size<=5000
 body:x.body.size<=5000
 bI:x.bI.size<=5000
 n:x.n<4294967296
theorem yT(r:fY Value)(x:nK)(w:World)(hx:x.Small)(h1:r.aP=x.aP)(h2:r.bz=x.bz)(h3:r.eY=x.eY)(h4:r.cD=x.cD)(h5:x.Mc=decide (r.scheme=3))
  (dX:r.dom.oneCell'=true)(Mf:oC w 9 .u8 RJ)(hh:sO r.scheme w) :
  aC 109 #[.agg #[.int .i64 r.scheme,.string r.aP,.string r.bz,.string r.cC,.bool r.cD,.string r.eY,.bool r.du,r.dom],.agg #[.string x.user,.string x.pass],.string x.method,.string x.target,.string x.body,.string x.bI,.int .i64 x.n] w
   fun e w'=>e=.returned (.string (nX x))/\Fr aW w w':=by
 obtain⟨Mc,cD,aP,bz,eY,user,pass,method,target,body,bI,n⟩:=x;obtain⟨fG,iw,eL,cC,OC,mV,du,dom⟩:=r;obtain⟨z1,z2,z3,z4,z5,z6,z7,z8,z9,zn⟩:=hx;simp only at h1 h2 h3 h4 h5 dX z1 z2 z3 z4 z5 z6 z7 z8 z9 zn hh ⊢;subst h1 h2 h3 h4 h5;have HDB:=O Mf;have HH:=O hh;have HD1:=O dX;clear Mf hh;go_enter func109,ntmps109;go_wp2_with fail
 obtain⟨wb,jJ⟩:∃wb,wb=(w.alloc (.cells #[.int .i64 fG,.string iw,.string eL,.string cC,.bool OC,.string mV,.bool du,dom] 127)).alloc (.cells #[.string user,.string pass] 31):=⟨_,rfl⟩;have xx:wb.heap.size=w.heap.size+1+1:=by rw[jJ];simp
 have j6:Fr aW w wb:=by rw[jJ];exact((ae aW w).alloc _).alloc _
 have hk:wb.heap[w.heap.size]?=some (.cells #[.int .i64 fG,.string iw,.string eL,.string cC,.bool OC,.string mV,.bool du,dom] 127 (0,0)):=by rw[jJ];exact((ae aW _).alloc _).keep (aB _ _) id
 have HC:=O (show∀U,Fr aW wb U->U.cell? ⟨w.heap.size,0,none⟩=some (.int .i64 fG)/\U.cell? ⟨w.heap.size,2,none⟩=some (.string eL)/\U.cell? ⟨w.heap.size,4,none⟩=some (.bool OC)/\U.cell? ⟨w.heap.size,5,none⟩=some (.string mV)from fun U hU=>by
  have rM:=hU.keep hk id;simp[World.cell?,rM])
 have hv:=fQ wb 9 [user,iw,pass] (aZ rfl);rw[xx]at hv;rw[<-jJ];clear jJ hk;refine(HH.o _ [user,iw,pass] _ (j6.alloc _) hv (aZ rfl) (by rw[Fh];omega)).mono ?_;rintro e u1⟨rfl,dn⟩;have lB:=O (show Fr aW wb u1 from((ae aW wb).alloc _).trans dn);have PQ:=O (j6.trans lB.o);obtain⟨c0,c2,c4,c5⟩:=HC.o u1 lB.o;obtain⟨o0,ho0⟩:∃o0,o0=kl (decide (fG=3)) [user,iw,pass]:=⟨_,rfl⟩
 have hoz:o0.size<=64:=by rw[ho0];exact lp _ _
 rw[<-ho0];have HO0:=O ho0;clear ho0;clear hv dn xx;cases OC
 ·obtain⟨o1,Ac⟩:∃o1,o1=o0:=⟨_,rfl⟩;rw[<-Ac]at hoz ⊢;have HO:=O (show En ⟨decide (fG=3),false,iw,eL,mV,user,pass,method,target,body,bI,n⟩=o1 by rw[Ac,HO0.o];rfl);clear Ac;go_wp2_with fail
  refine(HH.o _ [method,target] _ (by repeat(first|exact PQ.o|refine bC ?_ oa|apply bq|apply az)) (fQ _ _ [method,target] (aZ rfl)) (aZ rfl) (by rw[Z4];omega)).mono ?_;rintro e u5⟨rfl,lC⟩;have w_:=O (show Fr aW wb u5 from bC (by repeat(first|exact lB.o|apply bq|apply az)) lC);have Fi:=O (j6.trans w_.o);obtain⟨d0,d2,d4,d5⟩:=HC.o u5 w_.o;clear c0 c2 c4 c5 lC
  obtain⟨t0,XL⟩:∃t0,t0=kl (decide (fG=3)) [method,target]:=⟨_,rfl⟩;have V6:t0.size<=64:=by rw[XL];exact lp _ _
  rw[<-XL];have HT0:=O XL;clear XL;by_cases hqi:mV=iP
  ·subst hqi;have hai:iP.toList=[97,117,116,104,45,105,110,116]:=dp;have HRI:=O (show nX ⟨decide (fG=3),false,iw,eL,iP,user,pass,method,target,body,bI,n⟩=kl (decide (fG=3)) [En ⟨decide (fG=3),false,iw,eL,iP,user,pass,method,target,body,bI,n⟩,eL,⟨(jl n).toArray⟩,bI,iP,wQ ⟨decide (fG=3),false,iw,eL,iP,user,pass,method,target,body,bI,n⟩]from by unfold nX;rw[ar Z2])
   have HTI:=O (show wQ ⟨decide (fG=3),false,iw,eL,iP,user,pass,method,target,body,bI,n⟩=kl (decide (fG=3)) [method,target,kl (decide (fG=3)) [body]]from by unfold wQ;rw[aA rfl]);have hbz:=lp (decide (fG=3)) [body];obtain⟨bb,xg⟩:∃bb,bb=kl (decide (fG=3)) [body]:=⟨_,rfl⟩;have HBB:=O xg;rw[<-xg]at hbz HTI;clear xg;go_wp2_with fail
   go_region_held3 (fun U=>U.cell? ⟨w.heap.size,0,none⟩=some (.int .i64 fG)) ((refine(HC.o _ ?_).1;repeat(first|exact w_.o|refine bC ?_ r_|refine bC ?_ oa|apply bq|apply az))) (first|((with_reducible refine at_len 1 ?_);go_at_call 160;refine(HH.o _ [body] _ (by repeat(first|exact Fi.o|apply bq|apply az)) (by first|exact fQ _ _ [body] (aZ rfl)|exact sg (fQ _ _ [body] (aZ rfl))) (aZ rfl) (by rw[Z3];omega)).mono ?_;rw[<-HBB.o];rintro e w7 ⟨rfl,oa⟩)|((with_reducible refine at_len 3 ?_);go_at_call 160;refine(HH.o _ [method,target,bb] _ (by repeat(first|exact Fi.o|refine bC ?_ oa|apply bq|apply az)) (by first|exact fQ _ _ [method,target,bb] (aZ rfl)|exact sg (fQ _ _ [method,target,bb] (aZ rfl))) (aZ rfl) (by rw[Fh];omega)).mono ?_;rintro e w8 ⟨rfl,r_⟩))
   all_goals
    have yj:=O (show Fr aW wb w8 from by repeat(first|exact w_.o|refine bC ?_ r_|refine bC ?_ oa|apply bq|apply az));have PR:=O (j6.trans yj.o);clear oa r_ d0 d2 d4 d5;obtain⟨d0,d2,d4,d5⟩:=HC.o w8 yj.o;obtain⟨t2,JJ⟩:∃t2,t2=kl (decide (fG=3)) [method,target,bb]:=⟨_,rfl⟩;have alo:t2.size<=64:=by rw[JJ];exact lp _ _
    rw[<-JJ];have HT:=O (HTI.o.trans JJ.symm);have HR:=O HRI.o;clear JJ;have alp:¬iP.toList=[]:=by rw[hai];simp
    have Wd:=O (fun(U:World) (hU:Fr aW wb U)=>And.intro (HC.o U hU).1 (And.intro (HC.o U hU).2.1 (HC.o U hU).2.2.2));clear V6;go_wp2_with fail
    go_region_held3 (fun U=>U.cell? ⟨w.heap.size,0,none⟩=some (.int .i64 fG)/\U.cell? ⟨w.heap.size,2,none⟩=some (.string eL)/\U.cell? ⟨w.heap.size,5,none⟩=some (.string iP)) ((refine Wd.o _ ?_;repeat(first|exact yj.o|refine bC ?_ r_|refine bC ?_ oa|apply bq|apply az))) (first|(go_at_call 111;refine(qR n _ zn (HDB.o.fr (by repeat(first|exact PR.o|refine bC ?_ oa|apply bq|apply az)))).mono ?_;rintro e w7 ⟨rfl,oa⟩)|(go_at_call 160;refine(HH.o _ [o1,eL,⟨(jl n).toArray⟩,bI,iP,t2] _ (by repeat(first|exact PR.o|refine bC ?_ oa|apply bq|apply az)) (fQ _ _ _ (aZ rfl)) (aZ rfl) (by rw[OB];have:=ua n;omega)).mono ?_;rintro e w8 ⟨rfl,r_⟩))
    all_goals
     have CU:=O (show Fr aW w w8 from bC (by repeat(first|exact PR.o|refine bC ?_ oa|apply bq|apply az)) r_);clear r_;go_wp2;go_ret;exact⟨by rw[HR.o,HO.o,HT.o];rfl,CU.o⟩
  ·have hq1:¬mV.toList=[97,117,116,104,45,105,110,116]:=fun h=>hqi (by rw[aN]at h;exact Go.WideShapes.bytes_inj h);have hq2:(mV.toList== [97,117,116,104,45,105,110,116])=false:=by simp[hq1]
   obtain⟨t2,JJ⟩:∃t2,t2=t0:=⟨_,rfl⟩;rw[<-JJ]at V6 ⊢;have HT:=O (show wQ ⟨decide (fG=3),false,iw,eL,mV,user,pass,method,target,body,bI,n⟩=t2 by rw[JJ,HT0.o];unfold wQ;rw[ar hqi]);clear JJ;by_cases PS:mV=.empty
   ·subst PS;have alq:ByteArray.empty.toList=[]:=dp;have HR:=O (show nX ⟨decide (fG=3),false,iw,eL,.empty,user,pass,method,target,body,bI,n⟩=kl (decide (fG=3)) [En ⟨decide (fG=3),false,iw,eL,.empty,user,pass,method,target,body,bI,n⟩,eL,wQ ⟨decide (fG=3),false,iw,eL,.empty,user,pass,method,target,body,bI,n⟩]from by unfold nX;rw[aA rfl]);go_wp2_with fail
    refine(HH.o _ [o1,eL,t2] _ (by repeat(first|exact Fi.o|refine bC ?_ oa|apply bq|apply az)) (fQ _ _ [o1,eL,t2] (aZ rfl)) (aZ rfl) (by rw[Fh];omega)).mono ?_;rintro e u9⟨rfl,XM⟩;go_wp2;go_ret;exact⟨by rw[HR.o,HO.o,HT.o];rfl,bC (by repeat(first|exact Fi.o|refine bC ?_ oa|apply bq|apply az)) XM⟩
   ·have XN:¬mV.toList=[]:=fun h=>PS (by rw[aN]at h;exact Go.WideShapes.bytes_inj h);have hq4:mV.toList.isEmpty=false:=by cases hz:mV.toList with|nil=>exact absurd hz XN|cons _ _=>rfl
    have HR:=O (show nX ⟨decide (fG=3),false,iw,eL,mV,user,pass,method,target,body,bI,n⟩=kl (decide (fG=3)) [En ⟨decide (fG=3),false,iw,eL,mV,user,pass,method,target,body,bI,n⟩,eL,⟨(jl n).toArray⟩,bI,mV,wQ ⟨decide (fG=3),false,iw,eL,mV,user,pass,method,target,body,bI,n⟩]from by unfold nX;rw[ar PS])
    have Wd:=O (fun(U:World) (hU:Fr aW wb U)=>And.intro (HC.o U hU).1 (And.intro (HC.o U hU).2.1 (HC.o U hU).2.2.2));go_wp2_with fail
    go_region_held3 (fun U=>U.cell? ⟨w.heap.size,0,none⟩=some (.int .i64 fG)/\U.cell? ⟨w.heap.size,2,none⟩=some (.string eL)/\U.cell? ⟨w.heap.size,5,none⟩=some (.string mV)) ((refine Wd.o _ ?_;repeat(first|exact w_.o|refine bC ?_ r_|refine bC ?_ oa|apply bq|apply az))) (first|(go_at_call 111;refine(qR n _ zn (HDB.o.fr (by repeat(first|exact Fi.o|refine bC ?_ oa|apply bq|apply az)))).mono ?_;rintro e w7 ⟨rfl,oa⟩)|(go_at_call 160;refine(HH.o _ [o1,eL,⟨(jl n).toArray⟩,bI,mV,t2] _ (by repeat(first|exact Fi.o|refine bC ?_ oa|apply bq|apply az)) (fQ _ _ _ (aZ rfl)) (aZ rfl) (by rw[OB];have:=ua n;omega)).mono ?_;rintro e w8 ⟨rfl,r_⟩))
    all_goals
     have CU:=O (show Fr aW w w8 from bC (by repeat(first|exact Fi.o|refine bC ?_ oa|apply bq|apply az)) r_);clear r_;go_wp2;go_ret;exact⟨by rw[HR.o,HO.o,HT.o];rfl,CU.o⟩
 ·go_wp2_with fail
  refine(HH.o _ [o0,eL,bI] _ (by repeat(first|exact PQ.o|apply bq|apply az)) (fQ _ _ [o0,eL,bI] (aZ rfl)) (aZ rfl) (by rw[Fh];omega)).mono ?_;rintro e u2⟨rfl,dD⟩;have fS:=O (show Fr aW wb u2 from bC (by repeat(first|exact lB.o|apply bq|apply az)) dD);have oz:=O (j6.trans fS.o);clear c0 c2 c4 c5 dD;obtain⟨c0,c2,c4,c5⟩:=HC.o u2 fS.o;obtain⟨o1,Ac⟩:∃o1,o1=kl (decide (fG=3)) [o0,eL,bI]:=⟨_,rfl⟩
  have arN:o1.size<=64:=by rw[Ac];exact lp _ _
  rw[<-Ac];have HO:=O (show En ⟨decide (fG=3),true,iw,eL,mV,user,pass,method,target,body,bI,n⟩=o1 by rw[Ac,HO0.o];rfl);clear Ac;go_wp2_with fail
  refine(HH.o _ [method,target] _ (by repeat(first|exact oz.o|refine bC ?_ oa|apply bq|apply az)) (fQ _ _ [method,target] (aZ rfl)) (aZ rfl) (by rw[Z4];omega)).mono ?_;rintro e u5⟨rfl,lC⟩;have w_:=O (show Fr aW wb u5 from bC (by repeat(first|exact fS.o|apply bq|apply az)) lC);have Fi:=O (j6.trans w_.o);obtain⟨d0,d2,d4,d5⟩:=HC.o u5 w_.o;clear c0 c2 c4 c5 lC
  obtain⟨t0,XL⟩:∃t0,t0=kl (decide (fG=3)) [method,target]:=⟨_,rfl⟩;have V6:t0.size<=64:=by rw[XL];exact lp _ _
  rw[<-XL];have HT0:=O XL;clear XL;by_cases hqi:mV=iP
  ·subst hqi;have hai:iP.toList=[97,117,116,104,45,105,110,116]:=dp;have HRI:=O (show nX ⟨decide (fG=3),true,iw,eL,iP,user,pass,method,target,body,bI,n⟩=kl (decide (fG=3)) [En ⟨decide (fG=3),true,iw,eL,iP,user,pass,method,target,body,bI,n⟩,eL,⟨(jl n).toArray⟩,bI,iP,wQ ⟨decide (fG=3),true,iw,eL,iP,user,pass,method,target,body,bI,n⟩]from by unfold nX;rw[ar Z2])
   have HTI:=O (show wQ ⟨decide (fG=3),true,iw,eL,iP,user,pass,method,target,body,bI,n⟩=kl (decide (fG=3)) [method,target,kl (decide (fG=3)) [body]]from by unfold wQ;rw[aA rfl]);have hbz:=lp (decide (fG=3)) [body];obtain⟨bb,xg⟩:∃bb,bb=kl (decide (fG=3)) [body]:=⟨_,rfl⟩;have HBB:=O xg;rw[<-xg]at hbz HTI;clear xg;go_wp2_with fail
   go_region_held3 (fun U=>U.cell? ⟨w.heap.size,0,none⟩=some (.int .i64 fG)) ((refine(HC.o _ ?_).1;repeat(first|exact w_.o|refine bC ?_ r_|refine bC ?_ oa|apply bq|apply az))) (first|((with_reducible refine at_len 1 ?_);go_at_call 160;refine(HH.o _ [body] _ (by repeat(first|exact Fi.o|apply bq|apply az)) (by first|exact fQ _ _ [body] (aZ rfl)|exact sg (fQ _ _ [body] (aZ rfl))) (aZ rfl) (by rw[Z3];omega)).mono ?_;rw[<-HBB.o];rintro e w7 ⟨rfl,oa⟩)|((with_reducible refine at_len 3 ?_);go_at_call 160;refine(HH.o _ [method,target,bb] _ (by repeat(first|exact Fi.o|refine bC ?_ oa|apply bq|apply az)) (by first|exact fQ _ _ [method,target,bb] (aZ rfl)|exact sg (fQ _ _ [method,target,bb] (aZ rfl))) (aZ rfl) (by rw[Fh];omega)).mono ?_;rintro e w8 ⟨rfl,r_⟩))
   all_goals
    have yj:=O (show Fr aW wb w8 from by repeat(first|exact w_.o|refine bC ?_ r_|refine bC ?_ oa|apply bq|apply az));have PR:=O (j6.trans yj.o);clear oa r_ d0 d2 d4 d5;obtain⟨d0,d2,d4,d5⟩:=HC.o w8 yj.o;obtain⟨t2,JJ⟩:∃t2,t2=kl (decide (fG=3)) [method,target,bb]:=⟨_,rfl⟩;have alo:t2.size<=64:=by rw[JJ];exact lp _ _
    rw[<-JJ];have HT:=O (HTI.o.trans JJ.symm);have HR:=O HRI.o;clear JJ;have alp:¬iP.toList=[]:=by rw[hai];simp
    have Wd:=O (fun(U:World) (hU:Fr aW wb U)=>And.intro (HC.o U hU).1 (And.intro (HC.o U hU).2.1 (HC.o U hU).2.2.2));clear V6;go_wp2_with fail
    go_region_held3 (fun U=>U.cell? ⟨w.heap.size,0,none⟩=some (.int .i64 fG)/\U.cell? ⟨w.heap.size,2,none⟩=some (.string eL)/\U.cell? ⟨w.heap.size,5,none⟩=some (.string iP)) ((refine Wd.o _ ?_;repeat(first|exact yj.o|refine bC ?_ r_|refine bC ?_ oa|apply bq|apply az))) (first|(go_at_call 111;refine(qR n _ zn (HDB.o.fr (by repeat(first|exact PR.o|refine bC ?_ oa|apply bq|apply az)))).mono ?_;rintro e w7 ⟨rfl,oa⟩)|(go_at_call 160;refine(HH.o _ [o1,eL,⟨(jl n).toArray⟩,bI,iP,t2] _ (by repeat(first|exact PR.o|refine bC ?_ oa|apply bq|apply az)) (fQ _ _ _ (aZ rfl)) (aZ rfl) (by rw[OB];have:=ua n;omega)).mono ?_;rintro e w8 ⟨rfl,r_⟩))
    all_goals
     have CU:=O (show Fr aW w w8 from bC (by repeat(first|exact PR.o|refine bC ?_ oa|apply bq|apply az)) r_);clear r_;go_wp2;go_ret;exact⟨by rw[HR.o,HO.o,HT.o];rfl,CU.o⟩
  ·have hq1:¬mV.toList=[97,117,116,104,45,105,110,116]:=fun h=>hqi (by rw[aN]at h;exact Go.WideShapes.bytes_inj h);have hq2:(mV.toList== [97,117,116,104,45,105,110,116])=false:=by simp[hq1]
   obtain⟨t2,JJ⟩:∃t2,t2=t0:=⟨_,rfl⟩;rw[<-JJ]at V6 ⊢;have HT:=O (show wQ ⟨decide (fG=3),true,iw,eL,mV,user,pass,method,target,body,bI,n⟩=t2 by rw[JJ,HT0.o];unfold wQ;rw[ar hqi]);clear JJ;by_cases PS:mV=.empty
   ·subst PS;have alq:ByteArray.empty.toList=[]:=dp;have HR:=O (show nX ⟨decide (fG=3),true,iw,eL,.empty,user,pass,method,target,body,bI,n⟩=kl (decide (fG=3)) [En ⟨decide (fG=3),true,iw,eL,.empty,user,pass,method,target,body,bI,n⟩,eL,wQ ⟨decide (fG=3),true,iw,eL,.empty,user,pass,method,target,body,bI,n⟩]from by unfold nX;rw[aA rfl]);go_wp2_with fail
    refine(HH.o _ [o1,eL,t2] _ (by repeat(first|exact Fi.o|refine bC ?_ oa|apply bq|apply az)) (fQ _ _ [o1,eL,t2] (aZ rfl)) (aZ rfl) (by rw[Fh];omega)).mono ?_;rintro e u9⟨rfl,XM⟩;go_wp2;go_ret;exact⟨by rw[HR.o,HO.o,HT.o];rfl,bC (by repeat(first|exact Fi.o|refine bC ?_ oa|apply bq|apply az)) XM⟩
   ·have XN:¬mV.toList=[]:=fun h=>PS (by rw[aN]at h;exact Go.WideShapes.bytes_inj h);have hq4:mV.toList.isEmpty=false:=by cases hz:mV.toList with|nil=>exact absurd hz XN|cons _ _=>rfl
    have HR:=O (show nX ⟨decide (fG=3),true,iw,eL,mV,user,pass,method,target,body,bI,n⟩=kl (decide (fG=3)) [En ⟨decide (fG=3),true,iw,eL,mV,user,pass,method,target,body,bI,n⟩,eL,⟨(jl n).toArray⟩,bI,mV,wQ ⟨decide (fG=3),true,iw,eL,mV,user,pass,method,target,body,bI,n⟩]from by unfold nX;rw[ar PS])
    have Wd:=O (fun(U:World) (hU:Fr aW wb U)=>And.intro (HC.o U hU).1 (And.intro (HC.o U hU).2.1 (HC.o U hU).2.2.2));go_wp2_with fail
    go_region_held3 (fun U=>U.cell? ⟨w.heap.size,0,none⟩=some (.int .i64 fG)/\U.cell? ⟨w.heap.size,2,none⟩=some (.string eL)/\U.cell? ⟨w.heap.size,5,none⟩=some (.string mV)) ((refine Wd.o _ ?_;repeat(first|exact w_.o|refine bC ?_ r_|refine bC ?_ oa|apply bq|apply az))) (first|(go_at_call 111;refine(qR n _ zn (HDB.o.fr (by repeat(first|exact Fi.o|refine bC ?_ oa|apply bq|apply az)))).mono ?_;rintro e w7 ⟨rfl,oa⟩)|(go_at_call 160;refine(HH.o _ [o1,eL,⟨(jl n).toArray⟩,bI,mV,t2] _ (by repeat(first|exact Fi.o|refine bC ?_ oa|apply bq|apply az)) (fQ _ _ _ (aZ rfl)) (aZ rfl) (by rw[OB];have:=ua n;omega)).mono ?_;rintro e w8 ⟨rfl,r_⟩))
    all_goals
     have CU:=O (show Fr aW w w8 from bC (by repeat(first|exact Fi.o|refine bC ?_ oa|apply bq|apply az)) r_);clear r_;go_wp2;go_ret;exact⟨by rw[HR.o,HO.o,HT.o];rfl,CU.o⟩
def nA(path query:ai):ai:=if query.size=0 then path else(path++⟨#[63]⟩)++query
theorem OwnRows.kind(h:OwnRows b e k w v xs)(hg:own v g):∃c,w.heap[g]?=some (.cells c e (0,0)):=by
 obtain⟨cap,cur,_,_,h2,_⟩:=h.open hg;exact⟨cur,h2⟩
def dh(b:Nat)(gv wv:Value):dz:=fun k=>k=b\/own gv k\/own wv k
section
variable {base : Nat} {w w' : World} {b : Nat} {gv wv : Value} {gs : List (aU bE)} {ws : List (bJ bE)}
theorem dB.tF(h:dB base w b gv wv gs ws)(hk:own gv k):∃c,w.heap[k]?=some (.cells c 133 (0,0)):=by
 obtain⟨rs,h1,_⟩:=h.bW;exact h1.kind hk
theorem dB.vP(h:dB base w b gv wv gs ws)(hk:own wv k):∃c,w.heap[k]?=some (.cells c 129 (0,0)):=by
 obtain⟨rs,h1,_⟩:=h.waits;exact h1.kind hk
theorem dB.gw(h:dB base w b gv wv gs ws)(hk:own gv k):¬own wv k:=by
 intro h2;obtain⟨c,e1⟩:=h.tF hk;obtain⟨d,e2⟩:=h.vP h2;rw[e1]at e2;cases e2
theorem dB.gb(h:dB base w b gv wv gs ws):¬own gv b:=by
 intro h2;obtain⟨c,e1⟩:=h.tF h2;have e2:=h.eG;rw[e1]at e2;cases e2
theorem dB.wb(h:dB base w b gv wv gs ws):¬own wv b:=by
 intro h2;obtain⟨c,e1⟩:=h.vP h2;have e2:=h.eG;rw[e1]at e2;cases e2
theorem dB.af_(h:dB base w b gv wv gs ws)(hk:own gv k):base<=k:=by
 obtain⟨rs,h1,_⟩:=h.bW;exact h1.block k hk
theorem dB.af'(h:dB base w b gv wv gs ws)(hk:own wv k):base<=k:=by
 obtain⟨rs,h1,_⟩:=h.waits;exact h1.block k hk
theorem dB.off(h:dB base w b gv wv gs ws):rL base w (dh b gv wv):=by
 intro k hk _;rcases hk with rfl|hk|hk
 ·exact⟨h.low,fun c f e=>by rw[h.eG]at e;cases e⟩
 ·obtain⟨c,e1⟩:=h.tF hk;exact⟨h.af_ hk,fun c f e=>by rw[e1]at e;cases e⟩
 ·obtain⟨c,e1⟩:=h.vP hk;exact⟨h.af' hk,fun c f e=>by rw[e1]at e;cases e⟩
end
def km(base:Nat)(w:World)(b:Nat)(gv wv:Value)(gs:List (aU bE))(ws:List (bJ bE))(w':World):Prop :=
 ∃gv' wv',dB base w' b gv' wv' gs ws/\Fr (dh b gv wv) w w'/\∀k,dh b gv' wv' k->dh b gv wv k\/w.heap.size<=k
def De(go:gy)(gx:Bool)(gr:ai)(o:gy)(proxy:Bool)(aP:ai):Bool:=go.kQ o&&(gx==proxy&&gr.toList==aP.toList)
def mP(o:gy)(proxy:Bool)(aP:ai)(g:aU bE):Bool:=De g.o g.proxy g.a.aP o proxy aP
def JU(o:gy)(proxy:Bool)(aP:ai)(x:aX):Bool:=De (ae6 x) (cB x 3) (cS x 7) o proxy aP
theorem JV(g:aU Value)(o:gy)(proxy:Bool)(aP:ai)(w:World) :
  aC 116 #[.agg g.cells.toArray,.agg o.cells.toArray,.bool proxy,.string aP] w fun e w'=>e=.returned (.bool (De g.o g.proxy g.a.aP o proxy aP))/\Fr aW w w':=by
 have heq:=jW g.o o;unfold aU.cells gy.cells;cases e1:g.o.kQ o
 ·have HR:=O (show De g.o g.proxy g.a.aP o proxy aP=false by unfold De;rw[e1];rfl);go_enter func116,ntmps116;go_wp2;go_ret;exact⟨by rw[HR.o];rfl,((ae _ _).alloc _).alloc _⟩
 ·have HR:=O (show De g.o g.proxy g.a.aP o proxy aP=(g.proxy==proxy&&g.a.aP.toList==aP.toList)by unfold De;rw[e1];rfl);cases e2:g.proxy==proxy
  ·go_enter func116,ntmps116;go_wp2;go_ret;exact⟨by rw[HR.o,e2];rfl,((ae _ _).alloc _).alloc _⟩
  ·go_enter func116,ntmps116;go_wp2;go_ret;exact⟨by rw[HR.o,e2];rfl,((ae _ _).alloc _).alloc _⟩
theorem Qb(g:aU Value)(dX:∀u∈g.cells,u.oneCell'=true)(o:gy)(proxy:Bool)(aP:ai)(bo bp br:Nat)(w:World)(ho:w.heap[bo]?=some (.cells #[.bool o.aG,.string o.host,.int .i64 o.port] 24 (0,0)))
  (hp:w.heap[bp]?=some (.cells #[.bool proxy] 4 (0,0)))(hr:w.heap[br]?=some (.cells #[.string aP] 9 (0,0))) :
  aC 115 #[.agg g.cells.toArray,.pointer (some ⟨bo,0,none⟩),.pointer (some ⟨bp,0,none⟩),.pointer (some ⟨br,0,none⟩)] w fun e w'=>e=.returned (.bool (JU o proxy aP g.cells))/\Fr aW w w':=by
 obtain⟨x,hx⟩:∃x,x=g.cells:=⟨_,rfl⟩;have lr:x.length=16:=by rw[hx];rfl
 have HX:=O hx;have Fo:=O (GV lr);have iM:=fun W=>run_storeCells_new (P:=prog) W 133 #[.bool false,.string ⟨#[]⟩,.int .i64 0,.bool false,.string ⟨#[]⟩,.string ⟨#[]⟩,.int .i64 0,.string ⟨#[]⟩,.string ⟨#[]⟩,.string ⟨#[]⟩,.bool false,.string ⟨#[]⟩,.bool false,.slice none 0 0,.int .i64 0,.slice none 0 0] x (by rw[lr];rfl) (by rw[hx];exact dX)
 have iv:Fr aW w (w.alloc (.cells x.toArray 133)):=(ae aW w).alloc _;have qE:=O (iv.keep ho id);have EY:=iv.keep hp id;have oP:=iv.keep hr id;have cp:(w.alloc (.cells x.toArray 133)).cell? ⟨bp,0,none⟩=some (.bool proxy):=by simp only[World.cell?,EY];rfl
 have cr:(w.alloc (.cells x.toArray 133)).cell? ⟨br,0,none⟩=some (.string aP):=by simp only[World.cell?,oP];rfl
 have fy:=O (JV g o proxy aP (w.alloc (.cells x.toArray 133)));rw[<-hx];rw[<-hx]at fy;clear hx ho hp hr EY oP;go_enter func115,ntmps115
 go_wp2_with (first|((with_reducible refine dv 6 ?_);refine aJ rfl 133 (.tmp 4) rfl w.heap.size rfl _ x.toArray (0,0) _ (aB w _) underlying133 rfl (by rw[ba];exact Fo.o) ?_)|((with_reducible refine dv 7 ?_);refine aJ rfl 24 (.tmp 1) rfl bo rfl _ _ (0,0) _ qE.o underlying24 rfl af ?_)|fail)
 refine fy.o.mono ?_;rintro e w2⟨rfl,dD⟩;go_wp2;go_ret;rw[HX.o];exact⟨rfl,iv.trans dD⟩
theorem Es(S:dz)(w:World)(o:gy)(proxy:Bool)(aP:ai)(bo bp br:Nat)(rs:List (aU Value))(dX:∀r∈rs,∀u∈r.cells,u.oneCell'=true)
  (ho:w.heap[bo]?=some (.cells #[.bool o.aG,.string o.host,.int .i64 o.port] 24 (0,0)))(hp:w.heap[bp]?=some (.cells #[.bool proxy] 4 (0,0)))(hr:w.heap[br]?=some (.cells #[.string aP] 9 (0,0)))
  (h1:¬S bo)(h2:¬S bp)(h3:¬S br) :
  gF S w 115 #[.pointer (some ⟨bo,0,none⟩),.pointer (some ⟨bp,0,none⟩),.pointer (some ⟨br,0,none⟩)] (JU o proxy aP) (rs.map aU.cells):=by
 intro x hx u hu;obtain⟨r,hr0,rfl⟩:=cj.1 hx;exact Qb r (dX r hr0) o proxy aP bo bp br u (hu.keep ho h1) (hu.keep hp h2) (hu.keep hr h3)
theorem dB.aga{base:Nat}{w:World}{b:Nat}{gv0 gv wv:Value}{gs:List (aU bE)}{ws:List (bJ bE)}(hl:base<=b)(hb:w.heap[b]?=some (.cells #[gv0,wv] 118 (0,0)))(hg:hD base w gv gs)(hw:jS base w wv ws) :
  dB base (w.setCell ⟨b,0,none⟩ gv) b gv wv gs ws:=by
 have rA:rL base w (one b):=by
  rintro k rfl _;exact⟨hl,fun c f e=>by rw[hb]at e;cases e⟩
 have kx:Fr (one b) w (w.setCell ⟨b,0,none⟩ gv):=(ae (one b) w).setCell (p:=⟨b,0,none⟩) (fun _=>rfl) _;refine⟨hl,b_ hb 0 gv,hg.fr kx rA ?_,hw.fr kx rA ?_⟩
 ·rintro k hk rfl;obtain⟨rs,h1,_⟩:=hg;obtain⟨c,e⟩:=h1.kind hk;rw[hb]at e;cases e
 ·rintro k hk rfl;obtain⟨rs,h1,_⟩:=hw;obtain⟨c,e⟩:=h1.kind hk;rw[hb]at e;cases e
theorem dB.ab5{wv0 gv wv:Value}{gs:List (aU bE)}{ws:List (bJ bE)}(hl:base<=b)(hb:w.heap[b]?=some (.cells #[gv,wv0] 118 (0,0)))(hg:hD base w gv gs)(hw:jS base w wv ws) :
  dB base (w.setCell ⟨b,1,none⟩ wv) b gv wv gs ws:=by
 have rA:rL base w (one b):=by
  rintro k rfl _;exact⟨hl,fun c f e=>by rw[hb]at e;cases e⟩
 have kx:Fr (one b) w (w.setCell ⟨b,1,none⟩ wv):=(ae (one b) w).setCell (p:=⟨b,1,none⟩) (fun _=>rfl) _;refine⟨hl,b_ hb 1 wv,hg.fr kx rA ?_,hw.fr kx rA ?_⟩
 ·rintro k hk rfl;obtain⟨rs,h1,_⟩:=hg;obtain⟨c,e⟩:=h1.kind hk;rw[hb]at e;cases e
 ·rintro k hk rfl;obtain⟨rs,h1,_⟩:=hw;obtain⟨c,e⟩:=h1.kind hk;rw[hb]at e;cases e
theorem hD.zb{base:Nat}{w:World}{v:Value}{rs:List (aU Value)}{gs:List (aU bE)}{p:aX->Bool}{q:aU bE->Bool}(h1:OwnRows base 133 16 w v ((rs.map aU.cells).filter (fun x=>!p x)))(h2:lf (aU.Reads (cZ base w)) rs gs)
  (ZL:∀r g,aU.Reads (cZ base w) r g->p r.cells=q g):hD base w v (gs.filter (fun g=>!q g))/\((rs.map aU.cells).filter (fun x=>!p x)).length=(gs.filter (fun g=>!q g)).length:=by
 have hb:lf (aU.Reads (cZ base w)) (rs.filter (fun r=>!p r.cells)) (gs.filter (fun g=>!q g)):=h2.filter (fun r g h=>by rw[ZL r g h]);have he:(rs.map aU.cells).filter (fun x=>!p x)=(rs.filter (fun r=>!p r.cells)).map aU.cells:=by rw[List.filter_map];rfl
 refine⟨⟨_,by rw[he]at h1;exact h1,hb⟩,?_⟩;rw[he,aj,hb.len]
theorem Be{r:aU Value}{g:aU bE}(h:aU.Reads (cZ base w) r g)(o:gy)(proxy:Bool)(aP:ai):JU o proxy aP r.cells=mP o proxy aP g:=by
 obtain⟨h1,h2,_,_,⟨_,h3,_⟩,_⟩:=h;unfold mP;rw[<-h1, <-h2, <-h3];rfl
def vQ(base:Nat)(w:World)(b:Nat)(gv wv:Value)(gs:List (aU bE))(ws:List (bJ bE))(q:aU bE->Bool)(e:Ending)(w':World):Prop :=
 e=.returned (.bool (decide ((gs.filter (fun g=>!q g)).length<gs.length)))/\km base w b gv wv (gs.filter (fun g=>!q g)) ws w'
theorem zc(base:Nat)(w:World)(b:Nat)(gv wv:Value)(gs:List (aU bE))(ws:List (bJ bE))(o:gy)(proxy:Bool)(aP:ai)(h:dB base w b gv wv gs ws) :
  aC 75 #[.pointer (some ⟨b,0,none⟩),.agg o.cells.toArray,.bool proxy,.string aP] w (vQ base w b gv wv gs ws (mP o proxy aP)):=by
 unfold gy.cells;obtain⟨av,cv,hv⟩:=h.bW.form;subst hv;have tL:=h.lt;have kR:=h.low;have oQ:Fr aW w _:=(((ae aW w).alloc (.cells #[.bool o.aG,.string o.host,.int .i64 o.port] 24)).alloc (.cells #[.bool proxy] 4)).alloc (.cells #[.string aP] 9)
 have b0:(((w.alloc (.cells #[.bool o.aG,.string o.host,.int .i64 o.port] 24)).alloc (.cells #[.bool proxy] 4)).alloc (.cells #[.string aP] 9)).heap[w.heap.size]?=some (.cells #[.bool o.aG,.string o.host,.int .i64 o.port] 24 (0,0)):=by
  rw[Below.heap_alloc _ _ _ bF,Below.heap_alloc _ _ _ aQ];exact aB _ _
 have b1:(((w.alloc (.cells #[.bool o.aG,.string o.host,.int .i64 o.port] 24)).alloc (.cells #[.bool proxy] 4)).alloc (.cells #[.string aP] 9)).heap[w.heap.size+1]?=some (.cells #[.bool proxy] 4 (0,0)):=by
  rw[Below.heap_alloc _ _ _ aQ];have h:=aB (w.alloc (.cells #[.bool o.aG,.string o.host,.int .i64 o.port] 24)) (.cells #[.bool proxy] 4);simpa using h
 have b2:(((w.alloc (.cells #[.bool o.aG,.string o.host,.int .i64 o.port] 24)).alloc (.cells #[.bool proxy] 4)).alloc (.cells #[.string aP] 9)).heap[w.heap.size+2]?=some (.cells #[.string aP] 9 (0,0)):=by
  have h:=aB ((w.alloc (.cells #[.bool o.aG,.string o.host,.int .i64 o.port] 24)).alloc (.cells #[.bool proxy] 4)) (.cells #[.string aP] 9);simpa using h
 have h1:=h.dt oQ;have h0:=h1.c0;have B0:=O b0;have B1:=O b1;have B2:=O b2;clear b0 b1 b2;go_enter func75,ntmps75;go_wp2_with fail
 clear h0;generalize ((w.alloc (.cells _ 24)).alloc _).alloc _=W at *
 obtain⟨rs,Ac,qE⟩:=h1.bW;have dX:∀r∈rs,∀u∈r.cells,u.oneCell'=true:=fun r hr=>(Ac.1 r.cells (cj.2 ⟨r,hr,rfl⟩)).2;have hW:w.heap.size<=W.heap.size:=oQ.size;have Wi:∀k,own (.slice av gs.length cv) k->k<w.heap.size:=fun k hk=>by
  obtain⟨c,e⟩:=h.tF hk;exact bg e
 have hd:=O (xi base 115 #[.pointer (some ⟨w.heap.size,0,none⟩),.pointer (some ⟨w.heap.size+1,0,none⟩),.pointer (some ⟨w.heap.size+1+1,0,none⟩)] (JU o proxy aP) _ _ W call115
  (Es _ W o proxy aP w.heap.size (w.heap.size+1) (w.heap.size+1+1) rs dX B0.o B1.o B2.o (fun hk=>by have:=Wi _ hk;omega) (fun hk=>by have:=Wi _ hk;omega) (fun hk=>by have:=Wi _ hk;omega)) Ac)
 refine hd.o.mono ?_;rintro e w2⟨a2,c2,rfl,xG,dD,fu⟩;have TL:=qE.mono (fun _ _ h=>h.mono (fun _ _ h=>h.fr dD (fun k hk hl=>h1.off k (Or.inr (Or.inl hk)) hl)));obtain⟨Wb,Mt⟩:=hD.zb xG TL (fun r g h=>Be h o proxy aP);rw[Mt]at Wb fu ⊢;have kh:=dD.keep h1.eG h1.gb;have ez:=h1.waits.fr dD (fun k hk hl=>h1.off k (Or.inr (Or.inl hk)) hl) (fun k hk hg=>h1.gw hg hk);have qz:=O (dB.aga kR kh Wb ez)
 have c0:w2.cell? ⟨b,0,none⟩=some (.slice av gs.length cv):=by simp[World.cell?,kh]
 have f0:w2.frozen? ⟨b,0,none⟩=false:=by simp[World.frozen?,kh]
 have XK:Fr (dh b (.slice av gs.length cv) wv) w w2:=fL (oQ.mono (fun _ _ h=>absurd h id)) dD (fun k _ hk=>Or.inr (Or.inl hk));have HB:=XK.setCell (p:=⟨b,0,none⟩) (fun _=>Or.inl rfl) (.slice a2 (gs.filter (fun g=>!mP o proxy aP g)).length c2);have kP:∀k,dh b (.slice a2 (gs.filter (fun g=>!mP o proxy aP g)).length c2) wv k->dh b (.slice av gs.length cv) wv k\/w.heap.size<=k:=by
  intro k hk;unfold dh at hk;rw[fu]at hk;exact Or.inl hk
 clear hd Ac qE TL xG kh ez Wb h1 dX Wi Mt XK;obtain⟨fs,kx⟩:∃fs,fs=gs.filter (fun g=>!mP o proxy aP g):=⟨_,rfl⟩;rw[<-kx]at qz fu HB kP ⊢;have TM:=O kx;clear kx;go_wp2_with fail
 go_ret;unfold vQ;rw[<-TM.o];exact⟨ft aQ,_,_,qz.o,HB,kP⟩
abbrev nC := @dB.aga
theorem Qp(a:fY bE)(x:mZ):a.scheme<=(py a x).scheme:=by
 unfold py;split
 ·exact gQ _
 ·split
  ·omega
  ·exact gQ _
theorem Yd:∀(l:List mZ) (a:fY bE),a.scheme<=(l.foldl py a).scheme
 |[],_=>gQ _
 |x :: l,a=>Int.le_trans (Qp a x) (Yd l (py a x))
theorem OQ:∀(l:List mZ) (a:fY bE),l.foldl py a=a\/∃x∈l,mR x=some (l.foldl py a)
 |[],_=>Or.inl rfl
 |x :: l,a=>by
  rw[List.foldl_cons];rcases OQ l (py a x)with h|⟨y,hy,h⟩
  ·rw[h];unfold py;split
   ·exact Or.inl rfl
   ·rename_i b hb;split
    ·exact Or.inr ⟨x,cR .., hb⟩
    ·exact Or.inl rfl
  ·exact Or.inr ⟨y,bO _ hy,h⟩
def Rv(p:gU):Bool:=decide ((300:Int)<(p.1.size:Int)+(p.2.size:Int))
def Lm(ps:List gU):Bool:=decide (ps.length<=40)&&!(ps.any Rv)
def Pd:aX->gU
 |[.string a,.string b]=>(a,b)
 |_=>(ByteArray.empty,ByteArray.empty)
theorem Zu(v:Value)(ps:List gU)(w:World)(hv:ox w v ps)(hl:ps.length<=140737488355328)(hz:∀p∈ps,p.1.size<=140737488351232/\p.2.size<=140737488351232) :
  aC 38 #[v] w fun e w'=>e=.returned (.bool (Lm ps))/\Fr aW w w':=by
 obtain⟨av,cv,fT⟩:=hv.form;rw[aj]at fT;subst fT;have Lz:=O (BO _ #[] (fun x=>Rv (Pd x)) _ _ w call67 (fun x hx u _=>by
  obtain⟨p,hp,rfl⟩:=cj.1 hx;exact VV p.1 p.2 u (hz p hp).1 (hz p hp).2) hv)
 have iX:=O (show(ps.map gU.cells).any (fun x=>Rv (Pd x))=ps.any Rv by rw[List.any_map];rfl);by_cases Gi:ps.length<=40
 ·have hb:=O (show Lm ps=!(ps.any Rv)by unfold Lm;rw[bK Gi];rfl);have i40:(ps.length:Int)<=40:=ab;have d40:decide ((ps.length:Int)<=40)=true:=bK i40;go_enter func38,ntmps38;go_wp2_with fail
  refine Lz.o.mono ?_;rw[iX.o];rintro e u⟨rfl,hf⟩;go_wp2;go_ret;exact⟨ft hb.o.symm,hf⟩
 ·have hb:=O (show Lm ps=false by unfold Lm;rw[bB Gi];rfl);have i40:¬(ps.length:Int)<=40:=ab;have d40:decide ((ps.length:Int)<=40)=false:=bB i40;go_enter func38,ntmps38;go_wp2;go_ret;exact⟨ft hb.o.symm,ae _ _⟩
def th(l:Bs):Bs:=if l.getLast?=some 13 then l.dropLast else l
def trimB(l:Bs):Bs:=Lib.trimS l [32,9]
def Cv(l:Bs):Option (Option jh) :=
 if(th l).isEmpty then some none
 else if !(mi 58 (th l)).2.2||!zY (mi 58 (th l)).1 then none
 else some (some ((mi 58 (th l)).1,trimB (mi 58 (th l)).2.1))
def kE:List Bs->List jh->Except Nat (List jh)
 |[],acc=>.ok acc
 |l :: ls,acc =>
  match Cv l with
  |none=>.error 3
  |some none=>kE ls acc
  |some (some p)=>if acc.length=40 then .error 4 else kE ls (acc++[p])
def mF(s:Bs):Except Nat (List jh):=if 3000<s.length then .error 4 else kE (dU 10 s) []
def xH(ps:List jh)(n:Bs):List Bs:=(ps.filter fun p=>dG p.1 n).map (·.2)
def kU(ps:List jh)(n:Bs):Bs:=Lib.join (xH ps n) [44,32]
def qe(ps:List jh)(n:Bs):Bool:=!(xH ps n).isEmpty
theorem Xd(x y:Bs)(l:List Bs)(sep:Bs):Lib.join (x :: y :: l) sep=x++(sep++Lib.join (y :: l) sep):=by
 simp[Lib.join,List.intercalate]
def qG:Bs:=[65,99,99,101,115,115,45,67,111,110,116,114,111,108,45,65,108,108,111,119,45,79,114,105,103,105,110]
def Jk:Bs:=[65,99,99,101,115,115,45,67,111,110,116,114,111,108,45,65,108,108,111,119,45,67,114,101,100,101,110,116,105,97,108,115]
def Jl:Bs:=[65,99,99,101,115,115,45,67,111,110,116,114,111,108,45,65,108,108,111,119,45,77,101,116,104,111,100,115]
def xI:Bs:=[65,99,99,101,115,115,45,67,111,110,116,114,111,108,45,65,108,108,111,119,45,72,101,97,100,101,114,115]
def Gw:Bs:=[65,99,99,101,115,115,45,67,111,110,116,114,111,108,45,77,97,120,45,65,103,101]
def LU(t:Bs)(fF:Bool)(ps:List jh):Bool :=
 if !qe ps qG then false
 else if(kU ps qG== [42])&&!fF then true
 else if kU ps qG !=t then false
 else !fF||(kU ps Jk==lG)
def mT(ps:List jh):Int:=if qe ps Gw then(if ow (kU ps Gw)then min (yB (kU ps Gw)) 600 else 5)else 5
theorem LV(ps:List jh):0<=mT ps/\mT ps<=600/\(qe ps Gw=true\/mT ps=5):=by
 unfold mT;split
 ·rename_i h;split
  ·rename_i hd;unfold ow at hd;simp only[cy]at hd;have:=xD (kU ps Gw) 0 hd.2 ag ag;unfold yB;exact⟨ab,ab,Or.inl h⟩
  ·exact⟨ag,ag,Or.inl h⟩
 ·exact⟨ag,ag,Or.inr rfl⟩
def kK(ps:List jh)(n:Bs):Option (List Bs) :=
 match gP (kU ps n)with
 | .error _=>none
 | .ok l=>if 40<l.length then none else some l
def pS(ps:List en)(p:en):List en:=if ps.any (fun q=>q.kQ p)then ps else ps++[p]
def qF.Cw(r:qF)(pE:Int)(m h:ai):en:=⟨r.cQ,r.o,r.path,r.query,r.fF,m,h,pE⟩
def qF.methods(r:qF)(ms:List Bs):List ai:=if ms.isEmpty then [ju r.method]else ms.map bA
def qF.bW(r:qF)(pE:Int)(ms hs:List Bs):List en :=
 (hs.map fun h=>r.Cw pE (bA []) (bA (nd h))).foldl pS ((r.methods ms |>.map fun m=>r.Cw pE m (bA [])).foldl pS [])
def tW(r:qF)(t:Bs)(ps:List jh)(now:Int):Except Nat (List en) :=
 match kK ps Jl,kK ps xI with
 |some ms,some hs =>
  if !LU t r.fF ps then .error 6
  else if !r.mS (r.bW (now+mT ps) ms hs)then .error 6
  else .ok (r.bW (now+mT ps) ms hs)
 |_,_=>.error 3
def xd(n p:Nat)(e:Ending)(w':World):Prop :=
 ∃g,e=.returned (.iface 220 (.pointer (some ⟨g,0,none⟩)))/\w'.heap[g]?=some (.cells #[.int .i64 n,.int .i64 p] 222 (0,0))
theorem xd.new(n p:Nat)(w:World):xd n p (.returned (.iface 220 (.pointer (some ⟨w.heap.size,0,none⟩)))) (w.alloc (.cells #[.int .i64 n,.int .i64 p] 222 (0,0))):=⟨_,rfl,aB _ _⟩
theorem tq(b c i n:Nat)(s:ai)(v:Value)(w:World)(hr:iu w b c s v)(h:dk w c s i) :
  aC 168 #[.pointer (some ⟨b,0,none⟩),.int .i64 n] w fun e w'=>xd n i e w'/\Fr aW w w':=by
 have q0:=hr.cell0;go_enter func168,ntmps168;go_wp2_with fail
 refine(zX c s i w h).mono ?_;rintro e w1⟨rfl,rfl⟩;go_wp2;go_ret;exact⟨xd.new n i w,(ae _ _).alloc _⟩
theorem mI(l:Bs):(bA l).toList=l:=toList_mk l
def n_(p:jh):aX:=[.string (bA p.1),.string (bA p.2)]
def ks(w:World)(x:Nat)(sc tok:ai)(pv:Value):Prop:=w.heap[x]?=some (.cells #[.string sc,.string tok,pv] 208 (0,0))
section
variable {w w' : World} {x : Nat} {sc tok : ByteArray} {pv : Value}
theorem ks.cell0(h:ks w x sc tok pv):w.cell? ⟨x,0,none⟩=some (.string sc):=by simp[World.cell?,show w.heap[x]?=_ from h]
theorem ks.gV(h:ks w x sc tok pv):w.cell? ⟨x,1,none⟩=some (.string tok):=by simp[World.cell?,show w.heap[x]?=_ from h]
theorem ks.lU(h:ks w x sc tok pv):w.cell? ⟨x,2,none⟩=some pv:=by simp[World.cell?,show w.heap[x]?=_ from h]
theorem ks.free(h:ks w x sc tok pv)(k:Nat):w.frozen? ⟨x,k,none⟩=false:=by simp[World.frozen?,show w.heap[x]?=_ from h]
theorem ks.fr{S:dz}(h:ks w x sc tok pv)(hf:Fr S w w')(hn:¬S x):ks w' x sc tok pv:=hf.keep h hn
theorem ks.lt(h:ks w x sc tok pv):x<w.heap.size:=bg h
theorem ks.ne(h:ks w x sc tok pv)(g:dk w c t i):x≠c:=by
 intro e;subst e;have h':w.heap[x]?=_:=h;have g':w.heap[x]?=_:=g;rw[h']at g';simp at g'
theorem ks.neR(h:ks w x sc tok pv)(g:iu w b c t v):x≠b:=by
 intro e;subst e;have h':w.heap[x]?=_:=h;have g':w.heap[x]?=_:=g;rw[h']at g';simp at g'
end
theorem OwnRows.AY(h:OwnRows base e k w v xs)(hg:v.ownBlock=some g):∃cur,w.heap[g]?=some (.cells cur e (0,0)):=by
 rcases h.2.2 with ⟨hv,_⟩|⟨g',cap,cur,hv,_,hh,_⟩
 ·rw[hv]at hg;simp[Value.ownBlock]at hg
 ·rw[hv]at hg;simp[Value.ownBlock]at hg;subst hg;exact⟨cur,hh⟩
theorem OwnRows.not{t:TypeId}{cs:bS}{f:Nat×Nat}(h:OwnRows base e k w v xs)(hb:w.heap[g]?=some (.cells cs t f))(ht:t≠e):v.ownBlock≠some g:=by
 intro hg;obtain⟨cur,hc⟩:=h.AY hg;rw[hc]at hb;cases hb;exact ht rfl
def xe(w:World)(x:Nat)(a b:ai):Prop:=w.heap[x]?=some (.cells #[.string a,.string b] 142 (0,0))
def GB(c x:Nat)(pv:Value):dz:=fun k=>k=c\/k=x\/pv.ownBlock=some k
def nV(base c x i:Nat)(s:ai)(ps:List jh)(sc tok:ai)(pv:Value)(w:World)(e:Ending)(w':World):Prop :=
 Fr (GB c x pv) w w'/\match kJ ps (s.data.toList.drop i)with
  | .error n=>∃p,xd n p e w'
  | .ok q=>e=.returned .nilIface/\∃j Jr,j<=s.size/\dk w' c s j/\s.data.toList.drop j=q.2/\ks w' x sc tok Jr/\OwnRows base 142 2 w' Jr ((ps++[q.1]).map n_)
theorem nV.bad{x n p:Nat}{s:ai}{sc tok:ai}{pv:Value}{w':World}{e:Ending}(h:kJ ps (s.data.toList.drop i)=.error n)(hf:Fr (GB c x pv) w w')(he:xd n p e w'):nV base c x i s ps sc tok pv w e w':=by
 refine⟨hf,?_⟩;rw[h];exact⟨p,he⟩
theorem GC(s:ai)(i:Nat):s.data.toList.drop (eG s (eG s (Ie s i)+1))=ny (s.data.toList.drop i):=by
 unfold ny;rw[<-vD, <-oy s (Ie s i),ep,oy]
def abv(base b c x P i:Nat)(s:ai)(v:Value)(ps:List jh)(sc tok:ai)(pv:Value)(W:Bs)(w wx:World):Prop :=
 ∃val j,j<=s.size/\dk wx c s j/\xe wx P (bA W) (bA val)/\iu wx b c s v/\ks wx x sc tok pv/\OwnRows base 142 2 wx pv (ps.map n_)/\Fr (GB c x pv) w wx /\
  kJ ps (s.data.toList.drop i)=(if tQ ps W then .error 9 else if ps.length=16 then .error 4 else .ok ((W,val),s.data.toList.drop j))
theorem PD(l:Bs)(k:Nat):gC l k=(z_ (l.drop k)).map fun q=>(q.1,l.length-q.2.length):=by
 unfold gC;rcases fC k l.length with h|h
 ·rw[List.getElem?_eq_getElem h,cM h];show _=Option.map _ (if l[k]==34 then ve (l.drop (k+1))else none);by_cases hq:l[k]=34
  ·rw[hq,aA rfl,aA bw];unfold sH;simp
  ·rw[ar (by simpa using hq),ar (by simpa using hq)];rfl
 ·rw[List.getElem?_eq_none h,cL h,ar aQ];rfl
theorem Oh(l:Bs):(bA l).size=l.length:=rfl
def afg(ps:List jh)(W:Bs)(w:World)(t:Value)(wr:World):Prop:=∃k:Nat,k<=ps.length/\t=.int .i64 k/\(ps.take k).any (fun q=>dG q.1 W)=false/\Fr aW w wr
theorem vE{v:Bs}(h:ps[k]?=some (n,v))(hn:(ps.take k).any (fun q=>dG q.1 W)=false)(hp:dG n W=false):(ps.take (k+1)).any (fun q=>dG q.1 W)=false:=by
 rw[ct,h];simp only[List.any_append,hn,Option.toList_some,List.any_cons,hp,List.any_nil,Bool.or_false]
theorem SL{v:Bs}(h:ps[k]?=some (n,v))(hp:dG n W=true):tQ ps W=true:=by
 unfold tQ;rw[List.any_eq_true];exact⟨_,cA h,hp⟩
theorem Js:(prog.info? 142).map (fun i=>(i.zero,i.size,i.bytes))=some (some (.agg #[.string ⟨#[]⟩,.string ⟨#[]⟩]),2,32):=af
theorem Oi(p:jh):∀u∈n_ p,u.oneCell'=true:=by
 intro u hu;simp only[n_,bu,cg,dS]at hu;rcases hu with rfl|rfl<;>rfl
theorem SM(ps:List jh):∀x∈ps.map n_,x.length=2/\∀u∈x,u.oneCell'=true:=by
 intro x hx;obtain⟨p,_,rfl⟩:=cj.1 hx;exact⟨rfl,Oi p⟩
theorem xK:∀(f:Nat) (r a z:Bs),r.length<=f->ve r=some (a,z)->z <:+ r
 |0,r,a,z,hf,h=>by
  have:r=[]:=bZ ab;subst this;rw[ve.eq_def]at h;simp at h
 |f+1,[],a,z,hf,h=>by rw[ve.eq_def]at h;simp at h
 |f+1,x :: r,a,z,hf,h=>by
  rw[ve.eq_def]at h;simp only at h;by_cases h1:(x==34)=true
  ·rw[aA h1]at h;cases h;exact ji _ _
  ·rw[ar h1]at h;by_cases h2:(x==92)=true
   ·rw[aA h2]at h;cases r with
    |nil=>simp at h
    |cons y r' =>
     simp only at h;by_cases h3:ng y=true
     ·rw[aA h3]at h;cases hq:ve r' with
      |none=>rw[hq]at h;simp at h
      |some p =>
       rw[hq]at h;simp at h;obtain⟨rfl,rfl⟩:=h;have:=xK f r' p.1 p.2 (by simp at hf;omega) hq;exact(this.trans (ji _ _)).trans (ji _ _)
     ·rw[ar h3]at h;simp at h
   ·rw[ar h2]at h;by_cases h3:ng x=true
    ·rw[aA h3]at h;cases hq:ve r with
     |none=>rw[hq]at h;simp at h
     |some p =>
      rw[hq]at h;simp at h;obtain⟨rfl,rfl⟩:=h;have:=xK f r p.1 p.2 (by simp at hf;omega) hq;exact this.trans (ji _ _)
    ·rw[ar h3]at h;simp at h
theorem Jt(h:z <:+ l):l.drop (l.length-z.length)=z:=by
 obtain⟨t,rfl⟩:=h;rw[aM,Nat.add_sub_cancel,List.drop_left'];rfl
theorem Ju{a:Bs}(h:z_ (l.drop k)=some (a,z)):l.drop (l.length-z.length)=z:=by
 refine Jt (List.IsSuffix.trans ?_ (List.drop_suffix k l));cases hd:l.drop k with
 |nil=>rw[hd]at h;cases h
 |cons c t =>
  rw[hd]at h;have h':(if c==34 then ve t else none)=some (a,z):=h;by_cases hc:(c==34)=true
  ·rw[aA hc]at h';exact(xK _ t a z (ay _) h').trans (ji _ _)
  ·rw[ar hc]at h';cases h'
theorem PE(base b c x i:Nat)(s:ai)(v:Value)(ps:List jh)(sc tok:ai)(pv:Value)(w:World)(hr:iu w b c s v)(h:dk w c s i)(hx:ks w x sc tok pv)(ho:OwnRows base 142 2 w pv (ps.map n_))(hb:base<=w.heap.size)
  (hs:s.size<100000)(hi:i<=s.size)(hl:ps.length<=16)(hz:∀p∈ps,p.1.length<100000) :
  aC 171 #[.pointer (some ⟨b,0,none⟩),.pointer (some ⟨x,0,none⟩)] w (nV base c x i s ps sc tok pv w):=by
 have hm:s.size<=maxLen:=fl;have hbc:=hr.ne h;have hxc:=hx.ne h;have Xl:=hx.neR hr;have GD:pv.ownBlock≠some c:=ho.not h ag;have CE:pv.ownBlock≠some x:=ho.not hx ag;have hob:pv.ownBlock≠some b:=ho.not hr ag;have q0:=hr.cell0;have HN:=O (Jq s i);have HV:=O (GC s i);have hw:=Gz hi;have hk:=xJ hw;have PF:=(show kJ ps (s.data.toList.drop i)=if !ln (s.data.toList.drop i)then .error 3 else
   match po (ny (s.data.toList.drop i))with
   |none=>.error 3
   |some q=>if tQ ps (gR (s.data.toList.drop i))then .error 9 else if ps.length=16 then .error 4 else .ok ((gR (s.data.toList.drop i),q.1),q.2)from rfl)
 have ZO:=O PF;clear PF;have D8:(gR (s.data.toList.drop i)).length<=s.size:=by
  have:=qQ (s.data.toList.drop i);simp at this;omega
 go_enter func171,ntmps171;go_wp2_with fail
 refine(zX c s i w h).mono ?_;rintro e w0⟨rfl,rfl⟩;go_wp2_with fail
 refine(vn c s i w h hm hi).mono ?_;rintro e w1⟨rfl,pJ,dn⟩;replace pJ:dk w1 c s (Ie s i):=pJ;rw[show s.extract i (cJ fM s.data.toList i)=bA (gR (s.data.toList.drop i))from yK s i];generalize gR (s.data.toList.drop i)=W at *
 generalize Ie s i=K1 at *
 have BV:=hr.one h dn;have nz:=hx.fr dn hxc;have Ac:=ho.fr dn (fun k hk e=>GD (by rw[hk];exact aq some e));have lB:=O (show Fr (GB c x pv) w w1 from dn.mono (fun k _ e=>Or.inl e));have q1:=BV.cell0;have q1a:∀o:Obj,(w1.alloc o).cell? ⟨b,0,none⟩=some (.pointer (some ⟨c,0,none⟩)):=fun o=>(BV.fr ((ae aW w1).alloc o) id).cell0;clear q0 dn;go_wp2_with fail
 obtain⟨wp,hwp⟩:∃wp,wp=w1.alloc (.cells #[.string (bA W),.string ⟨#[]⟩] 142):=⟨_,rfl⟩;have hpp:xe wp w1.heap.size (bA W) ⟨#[]⟩:=by rw[hwp];exact aB _ _
 have dD:Fr aW w1 wp:=by rw[hwp];exact(ae _ _).alloc _
 have oP:=BV.fr dD id;have sW:=pJ.fr dD id;have Oj:=nz.fr dD id;have qE:=Ac.fr dD (fun _ _ h=>h);have fS:=O (lB.o.trans dD.mU);have q2:=oP.cell0;rw[<-hwp];generalize hP:w1.heap.size=P at *
 have Xm:P≠c:=by intro e;have:=pJ.lt;omega
 have hPx:P≠x:=by intro e;have:=nz.lt;omega
 have hPb:P≠b:=by intro e;have:=BV.lt;omega
 have hPw:w.heap.size<=P:=by have:=lB.o.size;omega
 have arx:P<wp.heap.size:=bg hpp;have hoP:pv.ownBlock≠some P:=fun e=>by have:=Ac.lt P e;omega
 clear q1 q1a hwp dD;refine(mf c s K1 wp sW hm hw).mono ?_;rintro e w3⟨rfl,tP,ik⟩;replace tP:dk w3 c s (eG s K1):=tP;generalize eG s K1=K2 at *
 have rh:=oP.one sW ik;have xf:=Oj.fr ik hxc;have xG:=qE.fr ik (fun k hk e=>GD (by rw[hk];exact aq some e));have hp3:xe w3 P (bA W) ⟨#[]⟩:=ik.keep hpp Xm;have ij:=O (fS.o.trans (ik.mono (fun k _ e=>Or.inl e)));have q3:=rh.cell0;have p0:w3.cell? ⟨P,0,none⟩=some (.string (bA W)):=by simp[World.cell?,show w3.heap[P]?=_ from hp3]
 clear q2 ik BV nz Ac oP Oj qE hpp pJ sW;cases Ol:W.isEmpty
 case true =>
  have GF:(bA W).toList=[]:=by rw[mI];exact gj.1 Ol
  have zO:((bA W).toList== [])=true:=dQ.2 GF;rw[Ol]at HN;have HE:=O (show kJ ps (s.data.toList.drop i)=.error 3 by rw[ZO.o,HN.o];rfl);go_wp2_with fail
  refine(tq b c K2 3 s v w3 rh tP).mono ?_;rintro e w4⟨⟨g,rfl,hg⟩,kz⟩;go_wp2;go_ret;exact nV.bad HE.o (ij.o.trans kz.mU) ⟨g,rfl,hg⟩
 case false =>
  have GF:¬(bA W).toList=[]:=by rw[mI];intro e;rw[e]at Ol;cases Ol
  have zO:((bA W).toList== [])=false:=aK.2 GF;have HN2:=O (show ln (s.data.toList.drop i)=jU s K2 61 by rw[HN.o,Ol];rfl);clear HN Ol;go_wp2_with fail
  refine(pL c s K2 61 w3 tP hm).mono ?_;rintro e w4⟨rfl,tM,kz⟩;have vh:=rh.one tP kz;have Xn:=xf.fr kz hxc;have RB:=xG.fr kz (fun k hk e=>GD (by rw[hk];exact aq some e));have hp4:xe w4 P (bA W) ⟨#[]⟩:=kz.keep hp3 Xm;have jH:=O (ij.o.trans (kz.mono (fun k _ e=>Or.inl e)));have q4:=vh.cell0;have p0:w4.cell? ⟨P,0,none⟩=some (.string (bA W)):=by simp[World.cell?,show w4.heap[P]?=_ from hp4]
  clear q3 kz rh xf xG hp3 tP;cases N9:jU s K2 61
  ·have HE:=O (show kJ ps (s.data.toList.drop i)=.error 3 by rw[ZO.o,HN2.o,N9];rfl);rw[pd N9]at tM;go_wp2_with fail
   refine(tq b c K2 3 s v w4 vh tM).mono ?_;rintro e w5⟨⟨g,rfl,hg⟩,lC⟩;go_wp2;go_ret;exact nV.bad HE.o (jH.o.trans lC.mU) ⟨g,rfl,hg⟩
  ·rw[o_ N9]at tM;rw[HN2.o,N9]at ZO;have rM:K2+1<=s.size:=by
    have:=(List.getElem?_eq_some_iff.1 ((wC s K2 61).1 N9)).1;have h2:K2<s.size:=by simpa using this
    omega
   go_wp2_with fail
   refine(mf c s (K2+1) w4 tM hm rM).mono ?_;rintro e w5⟨rfl,tN,lC⟩;replace tN:dk w5 c s (eG s (K2+1)):=tN;have GG:=xJ rM;generalize eG s (K2+1)=K3 at *
   rw[<-HV.o]at ZO;have AZ:=vh.one tM lC;have hx5:=Xn.fr lC hxc;have Lq:=RB.fr lC (fun k hk e=>GD (by rw[hk];exact aq some e));have hp5:xe w5 P (bA W) ⟨#[]⟩:=lC.keep hp4 Xm;have w_:=O (jH.o.trans (lC.mono (fun k _ e=>Or.inl e)));have q5:=AZ.cell0;clear q4 p0 lC vh Xn RB hp4 tM;go_wp2_with fail
   refine(vn c s K3 w5 tN hm GG).mono ?_;rintro e w6⟨rfl,Lr,nw⟩;replace Lr:dk w6 c s (Ie s K3):=Lr;rw[show s.extract K3 (cJ fM s.data.toList K3)=bA (gR (s.data.toList.drop K3))from yK s K3];have Jv:=Gz GG
   have HVR:=O (show po (s.data.toList.drop K3)=if(gR (s.data.toList.drop K3)).isEmpty then z_ (s.data.toList.drop K3)else some (gR (s.data.toList.drop K3),s.data.toList.drop (Ie s K3))by unfold po;rw[vD]);have Xo:=O (show(gR (s.data.toList.drop K3)).isEmpty=true->Ie s K3=K3 from fun e=>by
    unfold Ie cJ;have e2:(List.takeWhile fM (s.data.toList.drop K3))=[]:=gj.1 e;rw[e2];rfl)
   generalize gR (s.data.toList.drop K3)=V at *
   generalize Ie s K3=K4 at *
   have Ig:=AZ.one tN nw;have hx6:=hx5.fr nw hxc;have yN:=Lq.fr nw (fun k hk e=>GD (by rw[hk];exact aq some e));have ZQ:xe w6 P (bA W) ⟨#[]⟩:=nw.keep hp5 Xm;have yj:=O (w_.o.trans (nw.mono (fun k _ e=>Or.inl e)));have p1:w6.cell? ⟨P,1,none⟩=some (.string ⟨#[]⟩):=by simp[World.cell?,show w6.heap[P]?=_ from ZQ]
   have f1:w6.frozen? ⟨P,1,none⟩=false:=by simp[World.frozen?,show w6.heap[P]?=_ from ZQ]
   clear q5 nw AZ hx5 Lq hp5 tN
   go_upto_if 52 with fail
   have L5:∀u:ai,xe (w6.setCell ⟨P,1,none⟩ (.string u)) P (bA W) u:=fun u=>b_ ZQ 1 (.string u);have SN:∀u:Value,Fr (one P) w6 (w6.setCell ⟨P,1,none⟩ u):=fun u=>(ae (one P) w6).setCell (p:=⟨P,1,none⟩) (fun _=>rfl) u;have Ih:=O (show∀u:Value,Fr (GB c x pv) w (w6.setCell ⟨P,1,none⟩ u)from fun u=>yj.o.step (SN u) (fun k hk e=>by have e':k=P:=e;omega))
   have HS:=O (show∀u:Value,iu (w6.setCell ⟨P,1,none⟩ u) b c s v/\dk (w6.setCell ⟨P,1,none⟩ u) c s K4/\ks (w6.setCell ⟨P,1,none⟩ u) x sc tok pv/\OwnRows base 142 2 (w6.setCell ⟨P,1,none⟩ u) pv (ps.map n_)from fun u =>
    ⟨Ig.fr (SN u) (fun e=>hPb (show b=P from e).symm),Lr.fr (SN u) (fun e=>Xm (show c=P from e).symm),hx6.fr (SN u) (fun e=>hPx (show x=P from e).symm),yN.fr (SN u) (fun k hk e=>hoP (by rw[hk];exact aq some e))⟩)
   go_cut [] (fun wx=>abv base b c x P i s v ps sc tok pv W w wx)
   case first =>
    obtain⟨RD,Xp,hx7,Xq⟩:=HS.o (.string (bA V));have Xr:=L5 (bA V);cases ZR:V.isEmpty
    case false =>
     have H':¬(bA V).toList=[]:=by rw[mI];intro e;rw[e]at ZR;cases ZR
     have hv2:((bA V).toList== [])=false:=aK.2 H';have Cj:(bA V).toList.isEmpty=false:=by rw[mI];exact ZR
     have SQ:=O (show po (s.data.toList.drop K3)=some (V,s.data.toList.drop K4)by rw[HVR.o,ZR];rfl);rw[Cj];go_wp2_with fail
     go_meet
     refine⟨V,K4,Jv,Xp,Xr,RD,hx7,Xq,Ih.o _,?_⟩;rw[ZO.o,SQ.o];rfl
    case true =>
     have Cj:(bA V).toList.isEmpty=true:=by rw[mI];exact ZR
     have hK4:=Xo.o ZR;subst hK4;have q7:=RD.cell0;have p71:(w6.setCell ⟨P,1,none⟩ (.string (bA V))).cell? ⟨P,1,none⟩=some (.string (bA V)):=by simp[World.cell?,show(w6.setCell ⟨P,1,none⟩ (.string (bA V))).heap[P]?=_ from Xr]
     rw[Cj];go_wp2_with fail
     refine(LG c s K4 _ Xp ab).mono ?_;intro e w8 hq;have HQA:=O (PD s.data.toList K4);cases hqr:z_ (s.data.toList.drop K4)with
     |none =>
      have hqa:gC s.data.toList K4=none:=by rw[HQA.o,hqr];rfl
      obtain⟨rfl,ZS,r_⟩:=hq.isNone hqa;have SQ:=O (show po (s.data.toList.drop K4)=none by rw[HVR.o,ZR];exact hqr);have SR:=RD.one Xp r_;have hp8:xe w8 P (bA W) (bA V):=r_.keep Xr Xm;have PG:=O ((Ih.o (.string (bA V))).trans (r_.mono (fun k _ e=>Or.inl e)));have CG:Fr (one P) w8 (w8.setCell ⟨P,1,none⟩ (.string ⟨#[]⟩)):=(ae (one P) w8).setCell (p:=⟨P,1,none⟩) (fun _=>rfl) _
      have ZT:=SR.fr CG (fun e=>hPb (show b=P from e).symm);have ZV:=ZS.fr CG (fun e=>Xm (show c=P from e).symm);have V7:=O (show Fr (GB c x pv) w (w8.setCell ⟨P,1,none⟩ (.string ⟨#[]⟩))from PG.o.step CG (fun k hk e=>by have e':k=P:=e;omega));have q8:=SR.cell0;have q9:=ZT.cell0;have p8:w8.cell? ⟨P,1,none⟩=some (.string (bA V)):=by simp[World.cell?,show w8.heap[P]?=_ from hp8]
      have f8:w8.frozen? ⟨P,1,none⟩=false:=by simp[World.frozen?,show w8.heap[P]?=_ from hp8]
      clear q7 p71 hq r_ CG;go_wp2_with fail
      refine(tq b c K4 3 s v _ ZT ZV).mono ?_;rintro e w10⟨⟨g,rfl,hg⟩,L7⟩;go_wp2;go_ret;exact nV.bad (by rw[ZO.o,SQ.o];rfl) (V7.o.trans L7.mU) ⟨g,rfl,hg⟩
     |some q =>
      obtain⟨a,z⟩:=q;have hqa:gC s.data.toList K4=some (a,s.data.toList.length-z.length):=by rw[HQA.o,hqr];rfl
      obtain⟨rfl,ZS,r_⟩:=hq.isOk hqa;have SQ:=O (show po (s.data.toList.drop K4)=some (a,z)by rw[HVR.o,ZR];exact hqr);have ZW:=O (Ju hqr);have SR:=RD.one Xp r_;have hx8:=hx7.fr r_ hxc;have RE:=Xq.fr r_ (fun k hk e=>GD (by rw[hk];exact aq some e));have hp8:xe w8 P (bA W) (bA V):=r_.keep Xr Xm;have PG:=O ((Ih.o (.string (bA V))).trans (r_.mono (fun k _ e=>Or.inl e)))
      have CG:Fr (one P) w8 (w8.setCell ⟨P,1,none⟩ (.string (bA a))):=(ae (one P) w8).setCell (p:=⟨P,1,none⟩) (fun _=>rfl) _;have ZT:=SR.fr CG (fun e=>hPb (show b=P from e).symm);have ZV:=ZS.fr CG (fun e=>Xm (show c=P from e).symm);have hx9:=hx8.fr CG (fun e=>hPx (show x=P from e).symm);have Xs:=RE.fr CG (fun k hk e=>hoP (by rw[hk];exact aq some e))
      have hp9:xe (w8.setCell ⟨P,1,none⟩ (.string (bA a))) P (bA W) (bA a):=b_ hp8 1 (.string (bA a));have V7:=O (show Fr (GB c x pv) w (w8.setCell ⟨P,1,none⟩ (.string (bA a)))from PG.o.step CG (fun k hk e=>by have e':k=P:=e;omega));have p8:w8.cell? ⟨P,1,none⟩=some (.string (bA V)):=by simp[World.cell?,show w8.heap[P]?=_ from hp8]
      have f8:w8.frozen? ⟨P,1,none⟩=false:=by simp[World.frozen?,show w8.heap[P]?=_ from hp8]
      clear q7 p71 hq r_ CG;go_wp2_with fail
      go_meet
      refine⟨a,_,?_,ZV,hp9,ZT,hx9,Xs,V7.o,?_⟩
      ·simp
      ·rw[ZO.o,SQ.o,show s.data.toList.drop (s.data.toList.length-z.length)=z from ZW.o];rfl
   case rest =>
   obtain⟨val,j,hj,Xp,Xr,RD,hx7,Xq,oa,yk⟩:=hcut;have Ii:=O yk;have Xt:=O oa;clear ZO yk oa HVR Xo L5 SN Ih HS Ig hx6 yN ZQ Lr p1 f1;have SS:w.heap.size<=wc.heap.size:=Xt.o.size;have il:base<=wc.heap.size:=aE hb SS;have Rz:=Xq.form;obtain⟨av,cv,afk⟩:=Rz;rw[aj]at afk;subst afk;have lL:=Xq.at;have x2:=hx7.lU;have xf2:=hx7.free 2
   have p0:wc.cell? ⟨P,0,none⟩=some (.string (bA W)):=by simp[World.cell?,show wc.heap[P]?=_ from Xr]
   have p1:wc.cell? ⟨P,1,none⟩=some (.string (bA val)):=by simp[World.cell?,show wc.heap[P]?=_ from Xr]
   have HPA:=O (show∀U,Fr aW wc U->U.cell? ⟨P,0,none⟩=some (.string (bA W))/\U.cell? ⟨P,1,none⟩=some (.string (bA val))/\U.cell? ⟨x,2,none⟩=some (.slice av ps.length cv)/\U.frozen? ⟨x,2,none⟩=false from fun U hU=>by
    have j1:=hU.keep Xr id;have j2:=hx7.fr hU id;exact⟨by simp[World.cell?,j1],by simp[World.cell?,j1],j2.lU,j2.free 2⟩)
   go_wp2_with fail
   go_loopw[71] (afg ps W wc) (fun t _=>ps.length-(intOf t).toNat)
   case atStart=>exact⟨0,aS _,rfl,rfl,ae _ _⟩
   case round =>
    obtain⟨k,ZM,rfl,hn,cN⟩:=hrel;have HN:=O hn;clear hn p0 p1 x2 xf2;obtain⟨p0,p1,x2,xf2⟩:=HPA.o wr cN;by_cases fx:k<ps.length
    ·have qp:(k:Int)<(ps.length:Int):=ab;have dL:=O (List.getElem?_eq_getElem fx);have V8:=hz _ (bL fx);generalize ps[k]=q at dL V8;obtain⟨nm,vl⟩:=q;rcases(bG lL cN).2 with ⟨_,_,_,e,_⟩|⟨bk,of,c',dn,h1,h2,h3,h4⟩
     ·have:ps.length=0:=by have:=aq List.length e;simpa using this
      omega
     rw[aj]at dn h1;cases dn;unfold maxLen at h2;have hcell:=h4 k (n_ (nm,vl)) (by rw[List.getElem?_map,dL.o];rfl);have c0:wr.cell? ⟨bk,of+k*2,none⟩=some (.string (bA nm)):=hcell 0 _ rfl;have c1:wr.cell? ⟨bk,of+k*2+1,none⟩=some (.string (bA vl)):=hcell 1 _ rfl;clear hcell h4;obtain⟨wb,jJ⟩:∃wb,wb=wr.alloc (.cells #[.string (bA nm),.string (bA vl)] 142):=⟨_,rfl⟩
     have j6:Fr aW wr wb:=by rw[jJ];exact(ae aW wr).alloc _
     have p0a:∀o:Obj,(wr.alloc o).cell? ⟨P,0,none⟩=some (.string (bA W)):=fun o=>(HPA.o _ (cN.alloc o)).1;have qC:=O jJ;have lZ:=O (cN.trans j6);clear jJ j6;go_wp2_with fail
     rw[<-qC.o];refine(ma (bA nm) (bA W) wb (by rw[Oh];have arC:nm.length<100000:=V8;omega) (by rw[Oh];omega)).mono ?_;rintro e w8⟨rfl,r_⟩;rw[fK,fK];have PG:=O (lZ.o.trans r_);cases nv:dG nm W
     ·have pN:=O (show(ps.take (k+1)).any (fun q=>dG q.1 W)=false from vE dL.o HN.o nv);go_wp2;go_roundw
      case rel=>exact⟨k+1,ab,bf,pN.o,PG.o⟩
      case measure=>simp[intOf];omega
     ·have HE:=O (show kJ ps (s.data.toList.drop i)=.error 9 by rw[Ii.o,aA (SL dL.o nv)]);go_wp2;go_ret;exact nV.bad HE.o ((Xt.o.trans PG.o.mU).alloc _) (xd.new 9 i w8)
    ·have qp:¬(k:Int)<(ps.length:Int):=ab;have HT:=O (show tQ ps W=false by have h:=HN.o;rw[aD ab]at h;exact h);rw[HT.o]at Ii;by_cases V9:ps.length=16
     ·have afl:((ps.length:Int)==16)=true:=by rw[V9];rfl
      have HE:=O (show kJ ps (s.data.toList.drop i)=.error 4 by rw[Ii.o,aA V9];rfl);clear V9;go_wp2;go_ret;exact nV.bad HE.o ((Xt.o.trans cN.mU).alloc _) (xd.new 4 i wr)
     ·have afl:((ps.length:Int)==16)=false:=aK.2 ab;have HE:=O (show kJ ps (s.data.toList.drop i)=.ok ((W,val),s.data.toList.drop j)by rw[Ii.o,ar V9];rfl);have SU:=Xt.o.trans (cN.mU (S:=GB c x (.slice av ps.length cv)));have hcr:=Xp.fr cN id;have hxr:=hx7.fr cN id;have hor:=Xq.fr cN (fun _ _ h=>h);have hbr:base<=wr.heap.size:=aE il cN.size
      have cO:wr.ownsRow base 142 2 (.slice av ps.length cv) ps.length (ps.map n_).flatten:=by
       have hh:=hor.2;rw[aj]at hh;exact hh
      have hPl:P<wr.heap.size:=cK (bg Xr) cN.size;have ob:x<wr.heap.size:=hxr.lt;have xc:c<wr.heap.size:=hcr.lt;obtain⟨i0,ri,oZ,kI,kS⟩:=info_parts Js;have wP:=O (show∀u∈n_ (W,val),u.oneCell'=true from Oi _);have hps:ps.length<16:=ab;clear afl lL hz HN;go_wp2_with fail
      go_region_law ((with_reducible refine mG ⟨some 102,_,_,_,_,_⟩ ?_)
                     refine step_append_lies _ bw _ _ _ bw base 142 i0 _ 2 32 underlying27 ri oZ kI kS rfl ab (.slice av ps.length cv) ps.length _ bw (by repeat(first|exact cO|apply World.ownsRow.alloc|apply World.ownsRow.drew)) ⟨wr.heap.size,0,none⟩ 1 1 (n_ (W,val)) bw bw (kB wr (n_ (W,val)) _) wP.o ab fl ab bF (wr.heap.size+1) aQ ?_
                     intro gg cap w5 vF jk SV abz
                     have qH:Fr (fun k=>(Value.slice av ps.length cv).ownBlock=some k) wr w5:=fg (by repeat(first|exact ae _ _|apply az|apply bq)) jk (fun _ hk _=>hk)
                     have k4:w5.cell? ⟨x,2,none⟩=some (.slice av ps.length cv):=(qH.cell (p:=⟨x,2,none⟩) ob CE).trans x2
                     have e4:w5.frozen? ⟨x,2,none⟩=false:=(qH.frozen (p:=⟨x,2,none⟩) ob CE).trans xf2)
      all_goals
       have hx5:ks w5 x sc tok (.slice av ps.length cv):=hxr.fr qH CE;have tN:dk w5 c s j:=hcr.fr qH GD;have IU:Fr (one x) w5 (w5.setCell ⟨x,2,none⟩ (.slice (some ⟨gg,0,none⟩) (ps.length+1) cap)):=(ae (one x) w5).setCell (p:=⟨x,2,none⟩) (fun _=>rfl) _;have hx6:ks (w5.setCell ⟨x,2,none⟩ (.slice (some ⟨gg,0,none⟩) (ps.length+1) cap)) x sc tok (.slice (some ⟨gg,0,none⟩) (ps.length+1) cap):=b_ hx5 2 _
       have Lr:=tN.fr IU (fun e=>hxc (show c=x from e).symm);have hgx:gg≠x:=by
        rintro rfl;rcases SV with e|e
        ·exact CE e
        ·omega
       have Lq:OwnRows base 142 2 w5 (.slice (some ⟨gg,0,none⟩) (ps.length+1) cap) ((ps++[(W,val)]).map n_):=by
        refine⟨SM _,?_⟩;have e1:((ps++[(W,val)]).map n_).length=ps.length+1:=aQ;have e2:((ps++[(W,val)]).map n_).flatten=(ps.map n_).flatten++n_ (W,val):=aQ;rw[e1,e2];exact vF
       have yN:=Lq.fr IU (fun k hk e=>hgx (by
        simp only[Value.ownBlock,eh]at hk;rw[hk];exact e))
       have PH:=O (show Fr (GB c x (.slice av ps.length cv)) w (w5.setCell ⟨x,2,none⟩ (.slice (some ⟨gg,0,none⟩) (ps.length+1) cap))from
        (SU.trans (qH.mono (fun k _ e=>Or.inr (Or.inr e)))).trans (IU.mono (fun k _ e=>Or.inr (Or.inl e))))
       clear k4 e4 jk vF cO qH;go_wp2;go_ret;refine⟨PH.o,?_⟩;rw[HE.o];exact⟨rfl,j,_,hj,Lr,rfl,hx6,yN⟩
theorem Mp(o:gy)(path query:ai)(w:World)(h1:path.size<100000)(h2:query.size<100000) :
  aC 74 #[.agg #[.bool o.aG,.string o.host,.int .i64 o.port,.string path,.string query]] w fun e w'=>e=.returned (.string (nA path query))/\Fr aW w w':=by
 by_cases h0:query.size=0
 ·have HT:=O (show nA path query=path by unfold nA;rw[aA h0]);have t1:query.toList=[]:=by rw[aN];exact gN.2 h0
  have t2:query.toList.isEmpty=true:=by rw[t1];rfl
  go_enter func74,ntmps74;go_wp2;go_ret;exact⟨by rw[HT.o];rfl,(ae aW w).alloc _⟩
 ·have HT:=O (show nA path query=(path++⟨#[63]⟩)++query by unfold nA;rw[ar h0]);have t1:¬query.toList=[]:=by rw[aN];exact fun h=>h0 (gN.1 h)
  have t2:query.toList.isEmpty=false:=by simpa using t1
  go_enter func74,ntmps74;go_wp2;go_ret;exact⟨by rw[HT.o];rfl,(ae aW w).alloc _⟩
