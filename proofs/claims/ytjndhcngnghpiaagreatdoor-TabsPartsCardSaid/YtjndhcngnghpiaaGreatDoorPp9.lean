/- Lemmas for the law's walk. -/
import Derived.Test.YtjndhcngnghpiaaGreatDoorPp8
import Derived.Deep.AppendLies
set_option maxRecDepth 100000
set_option maxHeartbeats 16000000
set_option linter.unusedSimpArgs false
namespace Go.Proofs.YtjndhcngnghpiaaGreatDoor
open Go.Proofs.Tryz
open Go.RowKit
variable {c b k g base i:Nat} {w:World} {v:Value} {e:TypeId} {xs:cX} {t:ai} {ps:List jn} {n W z l:Bs}
structure nD where
 LB:Bool
 cy:Bool
 aO:ai
 bC:ai
 eZ:ai
 user:ai
 pass:ai
 method:ai
 target:ai
 body:ai
 bz:ai
 n:Nat
def iR:ai:=⟨#[97,117,116,104,45,105,110,116]⟩
def D0(x:nD):ai:=if x.cy then ko x.LB [ko x.LB [x.user,x.aO,x.pass],x.bC,x.bz]else ko x.LB [x.user,x.aO,x.pass]
def wI(x:nD):ai:=if x.eZ=iR then ko x.LB [x.method,x.target,ko x.LB [x.body]]else ko x.LB [x.method,x.target]
def nO(x:nD):ai:=if x.eZ=.empty then ko x.LB [D0 x,x.bC,wI x]else ko x.LB [D0 x,x.bC,⟨(jr x.n).toArray⟩,x.bz,x.eZ,wI x]
theorem at_len(k:Nat){P:Program}{f:FuncId}{x:Value}{a:fi}{W:World}{Sd:Ending->World->Prop}(h:Calls P f #[x,.slice a k c] W Sd):Calls P f #[x,.slice a k c] W Sd:=h
theorem ZG:¬iR=.empty:=cZ
theorem sa{ss:List ai}(h:ig w v ss):ig w.drew v ss:=h
theorem ZH(a:ai):(ku [a]).length=a.size:=by simp[ku,Lib.join,List.intercalate]
theorem ZI(a b:ai):(ku [a,b]).length=a.size+b.size+1:=by simp[ku,Lib.join,List.intercalate];omega
theorem EM(a b c:ai):(ku [a,b,c]).length=a.size+b.size+c.size+2:=by simp[ku,Lib.join,List.intercalate];omega
theorem NY(a b c d e f:ai):(ku [a,b,c,d,e,f]).length=a.size+b.size+c.size+d.size+e.size+f.size+5:=by simp[ku,Lib.join,List.intercalate];omega
theorem t_(n:Nat):(⟨(jr n).toArray⟩:ai).size=8:=by show(jr n).toArray.size=8;simp[jr,nC]
structure nD.Small (x:nD):Prop where
 aO:x.aO.size<=5000
 bC:x.bC.size<=5000
 eZ:x.eZ.size<=5000
 user:x.user.size<=5000
 pass:x.pass.size<=5000
 method:x.method.size<=5000
 target:x.target.size<=5000
 body:x.body.size<=5000
 bz:x.bz.size<=5000
 n:x.n<4294967296
theorem yJ(r:fX Value)(x:nD)(w:World)(hx:x.Small)(h1:r.aO=x.aO)(h2:r.bC=x.bC)(h3:r.eZ=x.eZ)(h4:r.cy=x.cy)(h5:x.LB=decide (r.scheme=3))
  (ec:r.dom.oneCell'=true)(LD:oz w 9 .u8 Rf)(hh:sK r.scheme w) :
  aE 109 #[.agg #[.int .i64 r.scheme,.string r.aO,.string r.bC,.string r.cj,.bool r.cy,.string r.eZ,.bool r.dr,r.dom],.agg #[.string x.user,.string x.pass],.string x.method,.string x.target,.string x.body,.string x.bz,.int .i64 x.n] w
   fun e w'=>e=.returned (.string (nO x))/\Fr aX w w':=by
 obtain⟨LB,cy,aO,bC,eZ,user,pass,method,target,body,bz,n⟩:=x;obtain⟨fI,iy,eO,cj,NZ,mR,dr,dom⟩:=r;obtain⟨z1,z2,z3,z4,z5,z6,z7,z8,z9,zn⟩:=hx;simp only at h1 h2 h3 h4 h5 ec z1 z2 z3 z4 z5 z6 z7 z8 z9 zn hh ⊢;subst h1 h2 h3 h4 h5;have HDB:=O LD;have HH:=O hh;have HD1:=O ec;clear LD hh;go_enter func109,ntmps109;go_wp2_with fail
 obtain⟨wb,jP⟩:∃wb,wb=(w.alloc (.cells #[.int .i64 fI,.string iy,.string eO,.string cj,.bool NZ,.string mR,.bool dr,dom] 127)).alloc (.cells #[.string user,.string pass] 31):=⟨_,rfl⟩;have xl:wb.heap.size=w.heap.size+1+1:=by rw[jP];simp
 have kf:Fr aX w wb:=by rw[jP];exact((ae aX w).alloc _).alloc _
 have hk:wb.heap[w.heap.size]?=some (.cells #[.int .i64 fI,.string iy,.string eO,.string cj,.bool NZ,.string mR,.bool dr,dom] 127 (0,0)):=by rw[jP];exact((ae aX _).alloc _).keep (aC _ _) id
 have HC:=O (show∀U,Fr aX wb U->U.cell? ⟨w.heap.size,0,none⟩=some (.int .i64 fI)/\U.cell? ⟨w.heap.size,2,none⟩=some (.string eO)/\U.cell? ⟨w.heap.size,4,none⟩=some (.bool NZ)/\U.cell? ⟨w.heap.size,5,none⟩=some (.string mR)from fun U hU=>by
  have sH:=hU.keep hk id;simp[World.cell?,sH])
 have hv:=fQ wb 9 [user,iy,pass] (aZ rfl);rw[xl]at hv;rw[<-jP];clear jP hk;refine(HH.o _ [user,iy,pass] _ (kf.alloc _) hv (aZ rfl) (by rw[EM];omega)).mono ?_;rintro e u1⟨rfl,dw⟩;have lA:=O (show Fr aX wb u1 from((ae aX wb).alloc _).trans dw);have Pd:=O (kf.trans lA.o);obtain⟨c0,c2,c4,c5⟩:=HC.o u1 lA.o;obtain⟨o0,ho0⟩:∃o0,o0=ko (decide (fI=3)) [user,iy,pass]:=⟨_,rfl⟩
 have hoz:o0.size<=64:=by rw[ho0];exact lo _ _
 rw[<-ho0];have HO0:=O ho0;clear ho0;clear hv dw xl;cases NZ
 ·obtain⟨o1,zO⟩:∃o1,o1=o0:=⟨_,rfl⟩;rw[<-zO]at hoz ⊢;have HO:=O (show D0 ⟨decide (fI=3),false,iy,eO,mR,user,pass,method,target,body,bz,n⟩=o1 by rw[zO,HO0.o];rfl);clear zO;go_wp2_with fail
  refine(HH.o _ [method,target] _ (by repeat(first|exact Pd.o|refine bF ?_ nY|apply bq|apply aA)) (fQ _ _ [method,target] (aZ rfl)) (aZ rfl) (by rw[ZI];omega)).mono ?_;rintro e u5⟨rfl,lB⟩;have wR:=O (show Fr aX wb u5 from bF (by repeat(first|exact lA.o|apply bq|apply aA)) lB);have EN:=O (kf.trans wR.o);obtain⟨d0,d2,d4,d5⟩:=HC.o u5 wR.o;clear c0 c2 c4 c5 lB
  obtain⟨t0,Xl⟩:∃t0,t0=ko (decide (fI=3)) [method,target]:=⟨_,rfl⟩;have VM:t0.size<=64:=by rw[Xl];exact lo _ _
  rw[<-Xl];have HT0:=O Xl;clear Xl;by_cases hqi:mR=iR
  ·subst hqi;have hai:iR.toList=[97,117,116,104,45,105,110,116]:=cZ;have HRI:=O (show nO ⟨decide (fI=3),false,iy,eO,iR,user,pass,method,target,body,bz,n⟩=ko (decide (fI=3)) [D0 ⟨decide (fI=3),false,iy,eO,iR,user,pass,method,target,body,bz,n⟩,eO,⟨(jr n).toArray⟩,bz,iR,wI ⟨decide (fI=3),false,iy,eO,iR,user,pass,method,target,body,bz,n⟩]from by unfold nO;rw[ay ZG])
   have HTI:=O (show wI ⟨decide (fI=3),false,iy,eO,iR,user,pass,method,target,body,bz,n⟩=ko (decide (fI=3)) [method,target,ko (decide (fI=3)) [body]]from by unfold wI;rw[aB rfl]);have hbz:=lo (decide (fI=3)) [body];obtain⟨bb,wY⟩:∃bb,bb=ko (decide (fI=3)) [body]:=⟨_,rfl⟩;have HBB:=O wY;rw[<-wY]at hbz HTI;clear wY;go_wp2_with fail
   go_region_held3 (fun U=>U.cell? ⟨w.heap.size,0,none⟩=some (.int .i64 fI)) ((refine(HC.o _ ?_).1;repeat(first|exact wR.o|refine bF ?_ rY|refine bF ?_ nY|apply bq|apply aA))) (first|((with_reducible refine at_len 1 ?_);go_at_call 160;refine(HH.o _ [body] _ (by repeat(first|exact EN.o|apply bq|apply aA)) (by first|exact fQ _ _ [body] (aZ rfl)|exact sa (fQ _ _ [body] (aZ rfl))) (aZ rfl) (by rw[ZH];omega)).mono ?_;rw[<-HBB.o];rintro e w7 ⟨rfl,nY⟩)|((with_reducible refine at_len 3 ?_);go_at_call 160;refine(HH.o _ [method,target,bb] _ (by repeat(first|exact EN.o|refine bF ?_ nY|apply bq|apply aA)) (by first|exact fQ _ _ [method,target,bb] (aZ rfl)|exact sa (fQ _ _ [method,target,bb] (aZ rfl))) (aZ rfl) (by rw[EM];omega)).mono ?_;rintro e w8 ⟨rfl,rY⟩))
   all_goals
    have x_:=O (show Fr aX wb w8 from by repeat(first|exact wR.o|refine bF ?_ rY|refine bF ?_ nY|apply bq|apply aA));have Pe:=O (kf.trans x_.o);clear nY rY d0 d2 d4 d5;obtain⟨d0,d2,d4,d5⟩:=HC.o w8 x_.o;obtain⟨t2,Ji⟩:∃t2,t2=ko (decide (fI=3)) [method,target,bb]:=⟨_,rfl⟩;have ak0:t2.size<=64:=by rw[Ji];exact lo _ _
    rw[<-Ji];have HT:=O (HTI.o.trans Ji.symm);have HR:=O HRI.o;clear Ji;have ak1:¬iR.toList=[]:=by rw[hai];simp
    have VU:=O (fun(U:World) (hU:Fr aX wb U)=>And.intro (HC.o U hU).1 (And.intro (HC.o U hU).2.1 (HC.o U hU).2.2.2));clear VM;go_wp2_with fail
    go_region_held3 (fun U=>U.cell? ⟨w.heap.size,0,none⟩=some (.int .i64 fI)/\U.cell? ⟨w.heap.size,2,none⟩=some (.string eO)/\U.cell? ⟨w.heap.size,5,none⟩=some (.string iR)) ((refine VU.o _ ?_;repeat(first|exact x_.o|refine bF ?_ rY|refine bF ?_ nY|apply bq|apply aA))) (first|(go_at_call 111;refine(qO n _ zn (HDB.o.fr (by repeat(first|exact Pe.o|refine bF ?_ nY|apply bq|apply aA)))).mono ?_;rintro e w7 ⟨rfl,nY⟩)|(go_at_call 160;refine(HH.o _ [o1,eO,⟨(jr n).toArray⟩,bz,iR,t2] _ (by repeat(first|exact Pe.o|refine bF ?_ nY|apply bq|apply aA)) (fQ _ _ _ (aZ rfl)) (aZ rfl) (by rw[NY];have:=t_ n;omega)).mono ?_;rintro e w8 ⟨rfl,rY⟩))
    all_goals
     have Cw:=O (show Fr aX w w8 from bF (by repeat(first|exact Pe.o|refine bF ?_ nY|apply bq|apply aA)) rY);clear rY;go_wp2;go_ret;exact⟨by rw[HR.o,HO.o,HT.o];rfl,Cw.o⟩
  ·have hq1:¬mR.toList=[97,117,116,104,45,105,110,116]:=fun h=>hqi (by rw[aN]at h;exact Go.WideShapes.bytes_inj h);have hq2:(mR.toList== [97,117,116,104,45,105,110,116])=false:=by simp[hq1]
   obtain⟨t2,Ji⟩:∃t2,t2=t0:=⟨_,rfl⟩;rw[<-Ji]at VM ⊢;have HT:=O (show wI ⟨decide (fI=3),false,iy,eO,mR,user,pass,method,target,body,bz,n⟩=t2 by rw[Ji,HT0.o];unfold wI;rw[ay hqi]);clear Ji;by_cases Pf:mR=.empty
   ·subst Pf;have ak2:ByteArray.empty.toList=[]:=cZ;have HR:=O (show nO ⟨decide (fI=3),false,iy,eO,.empty,user,pass,method,target,body,bz,n⟩=ko (decide (fI=3)) [D0 ⟨decide (fI=3),false,iy,eO,.empty,user,pass,method,target,body,bz,n⟩,eO,wI ⟨decide (fI=3),false,iy,eO,.empty,user,pass,method,target,body,bz,n⟩]from by unfold nO;rw[aB rfl]);go_wp2_with fail
    refine(HH.o _ [o1,eO,t2] _ (by repeat(first|exact EN.o|refine bF ?_ nY|apply bq|apply aA)) (fQ _ _ [o1,eO,t2] (aZ rfl)) (aZ rfl) (by rw[EM];omega)).mono ?_;rintro e u9⟨rfl,Xm⟩;go_wp2;go_ret;exact⟨by rw[HR.o,HO.o,HT.o];rfl,bF (by repeat(first|exact EN.o|refine bF ?_ nY|apply bq|apply aA)) Xm⟩
   ·have Xn:¬mR.toList=[]:=fun h=>Pf (by rw[aN]at h;exact Go.WideShapes.bytes_inj h);have hq4:mR.toList.isEmpty=false:=by cases hz:mR.toList with|nil=>exact absurd hz Xn|cons _ _=>rfl
    have HR:=O (show nO ⟨decide (fI=3),false,iy,eO,mR,user,pass,method,target,body,bz,n⟩=ko (decide (fI=3)) [D0 ⟨decide (fI=3),false,iy,eO,mR,user,pass,method,target,body,bz,n⟩,eO,⟨(jr n).toArray⟩,bz,mR,wI ⟨decide (fI=3),false,iy,eO,mR,user,pass,method,target,body,bz,n⟩]from by unfold nO;rw[ay Pf])
    have VU:=O (fun(U:World) (hU:Fr aX wb U)=>And.intro (HC.o U hU).1 (And.intro (HC.o U hU).2.1 (HC.o U hU).2.2.2));go_wp2_with fail
    go_region_held3 (fun U=>U.cell? ⟨w.heap.size,0,none⟩=some (.int .i64 fI)/\U.cell? ⟨w.heap.size,2,none⟩=some (.string eO)/\U.cell? ⟨w.heap.size,5,none⟩=some (.string mR)) ((refine VU.o _ ?_;repeat(first|exact wR.o|refine bF ?_ rY|refine bF ?_ nY|apply bq|apply aA))) (first|(go_at_call 111;refine(qO n _ zn (HDB.o.fr (by repeat(first|exact EN.o|refine bF ?_ nY|apply bq|apply aA)))).mono ?_;rintro e w7 ⟨rfl,nY⟩)|(go_at_call 160;refine(HH.o _ [o1,eO,⟨(jr n).toArray⟩,bz,mR,t2] _ (by repeat(first|exact EN.o|refine bF ?_ nY|apply bq|apply aA)) (fQ _ _ _ (aZ rfl)) (aZ rfl) (by rw[NY];have:=t_ n;omega)).mono ?_;rintro e w8 ⟨rfl,rY⟩))
    all_goals
     have Cw:=O (show Fr aX w w8 from bF (by repeat(first|exact EN.o|refine bF ?_ nY|apply bq|apply aA)) rY);clear rY;go_wp2;go_ret;exact⟨by rw[HR.o,HO.o,HT.o];rfl,Cw.o⟩
 ·go_wp2_with fail
  refine(HH.o _ [o0,eO,bz] _ (by repeat(first|exact Pd.o|apply bq|apply aA)) (fQ _ _ [o0,eO,bz] (aZ rfl)) (aZ rfl) (by rw[EM];omega)).mono ?_;rintro e u2⟨rfl,dF⟩;have fR:=O (show Fr aX wb u2 from bF (by repeat(first|exact lA.o|apply bq|apply aA)) dF);have ow:=O (kf.trans fR.o);clear c0 c2 c4 c5 dF;obtain⟨c0,c2,c4,c5⟩:=HC.o u2 fR.o;obtain⟨o1,zO⟩:∃o1,o1=ko (decide (fI=3)) [o0,eO,bz]:=⟨_,rfl⟩
  have arq:o1.size<=64:=by rw[zO];exact lo _ _
  rw[<-zO];have HO:=O (show D0 ⟨decide (fI=3),true,iy,eO,mR,user,pass,method,target,body,bz,n⟩=o1 by rw[zO,HO0.o];rfl);clear zO;go_wp2_with fail
  refine(HH.o _ [method,target] _ (by repeat(first|exact ow.o|refine bF ?_ nY|apply bq|apply aA)) (fQ _ _ [method,target] (aZ rfl)) (aZ rfl) (by rw[ZI];omega)).mono ?_;rintro e u5⟨rfl,lB⟩;have wR:=O (show Fr aX wb u5 from bF (by repeat(first|exact fR.o|apply bq|apply aA)) lB);have EN:=O (kf.trans wR.o);obtain⟨d0,d2,d4,d5⟩:=HC.o u5 wR.o;clear c0 c2 c4 c5 lB
  obtain⟨t0,Xl⟩:∃t0,t0=ko (decide (fI=3)) [method,target]:=⟨_,rfl⟩;have VM:t0.size<=64:=by rw[Xl];exact lo _ _
  rw[<-Xl];have HT0:=O Xl;clear Xl;by_cases hqi:mR=iR
  ·subst hqi;have hai:iR.toList=[97,117,116,104,45,105,110,116]:=cZ;have HRI:=O (show nO ⟨decide (fI=3),true,iy,eO,iR,user,pass,method,target,body,bz,n⟩=ko (decide (fI=3)) [D0 ⟨decide (fI=3),true,iy,eO,iR,user,pass,method,target,body,bz,n⟩,eO,⟨(jr n).toArray⟩,bz,iR,wI ⟨decide (fI=3),true,iy,eO,iR,user,pass,method,target,body,bz,n⟩]from by unfold nO;rw[ay ZG])
   have HTI:=O (show wI ⟨decide (fI=3),true,iy,eO,iR,user,pass,method,target,body,bz,n⟩=ko (decide (fI=3)) [method,target,ko (decide (fI=3)) [body]]from by unfold wI;rw[aB rfl]);have hbz:=lo (decide (fI=3)) [body];obtain⟨bb,wY⟩:∃bb,bb=ko (decide (fI=3)) [body]:=⟨_,rfl⟩;have HBB:=O wY;rw[<-wY]at hbz HTI;clear wY;go_wp2_with fail
   go_region_held3 (fun U=>U.cell? ⟨w.heap.size,0,none⟩=some (.int .i64 fI)) ((refine(HC.o _ ?_).1;repeat(first|exact wR.o|refine bF ?_ rY|refine bF ?_ nY|apply bq|apply aA))) (first|((with_reducible refine at_len 1 ?_);go_at_call 160;refine(HH.o _ [body] _ (by repeat(first|exact EN.o|apply bq|apply aA)) (by first|exact fQ _ _ [body] (aZ rfl)|exact sa (fQ _ _ [body] (aZ rfl))) (aZ rfl) (by rw[ZH];omega)).mono ?_;rw[<-HBB.o];rintro e w7 ⟨rfl,nY⟩)|((with_reducible refine at_len 3 ?_);go_at_call 160;refine(HH.o _ [method,target,bb] _ (by repeat(first|exact EN.o|refine bF ?_ nY|apply bq|apply aA)) (by first|exact fQ _ _ [method,target,bb] (aZ rfl)|exact sa (fQ _ _ [method,target,bb] (aZ rfl))) (aZ rfl) (by rw[EM];omega)).mono ?_;rintro e w8 ⟨rfl,rY⟩))
   all_goals
    have x_:=O (show Fr aX wb w8 from by repeat(first|exact wR.o|refine bF ?_ rY|refine bF ?_ nY|apply bq|apply aA));have Pe:=O (kf.trans x_.o);clear nY rY d0 d2 d4 d5;obtain⟨d0,d2,d4,d5⟩:=HC.o w8 x_.o;obtain⟨t2,Ji⟩:∃t2,t2=ko (decide (fI=3)) [method,target,bb]:=⟨_,rfl⟩;have ak0:t2.size<=64:=by rw[Ji];exact lo _ _
    rw[<-Ji];have HT:=O (HTI.o.trans Ji.symm);have HR:=O HRI.o;clear Ji;have ak1:¬iR.toList=[]:=by rw[hai];simp
    have VU:=O (fun(U:World) (hU:Fr aX wb U)=>And.intro (HC.o U hU).1 (And.intro (HC.o U hU).2.1 (HC.o U hU).2.2.2));clear VM;go_wp2_with fail
    go_region_held3 (fun U=>U.cell? ⟨w.heap.size,0,none⟩=some (.int .i64 fI)/\U.cell? ⟨w.heap.size,2,none⟩=some (.string eO)/\U.cell? ⟨w.heap.size,5,none⟩=some (.string iR)) ((refine VU.o _ ?_;repeat(first|exact x_.o|refine bF ?_ rY|refine bF ?_ nY|apply bq|apply aA))) (first|(go_at_call 111;refine(qO n _ zn (HDB.o.fr (by repeat(first|exact Pe.o|refine bF ?_ nY|apply bq|apply aA)))).mono ?_;rintro e w7 ⟨rfl,nY⟩)|(go_at_call 160;refine(HH.o _ [o1,eO,⟨(jr n).toArray⟩,bz,iR,t2] _ (by repeat(first|exact Pe.o|refine bF ?_ nY|apply bq|apply aA)) (fQ _ _ _ (aZ rfl)) (aZ rfl) (by rw[NY];have:=t_ n;omega)).mono ?_;rintro e w8 ⟨rfl,rY⟩))
    all_goals
     have Cw:=O (show Fr aX w w8 from bF (by repeat(first|exact Pe.o|refine bF ?_ nY|apply bq|apply aA)) rY);clear rY;go_wp2;go_ret;exact⟨by rw[HR.o,HO.o,HT.o];rfl,Cw.o⟩
  ·have hq1:¬mR.toList=[97,117,116,104,45,105,110,116]:=fun h=>hqi (by rw[aN]at h;exact Go.WideShapes.bytes_inj h);have hq2:(mR.toList== [97,117,116,104,45,105,110,116])=false:=by simp[hq1]
   obtain⟨t2,Ji⟩:∃t2,t2=t0:=⟨_,rfl⟩;rw[<-Ji]at VM ⊢;have HT:=O (show wI ⟨decide (fI=3),true,iy,eO,mR,user,pass,method,target,body,bz,n⟩=t2 by rw[Ji,HT0.o];unfold wI;rw[ay hqi]);clear Ji;by_cases Pf:mR=.empty
   ·subst Pf;have ak2:ByteArray.empty.toList=[]:=cZ;have HR:=O (show nO ⟨decide (fI=3),true,iy,eO,.empty,user,pass,method,target,body,bz,n⟩=ko (decide (fI=3)) [D0 ⟨decide (fI=3),true,iy,eO,.empty,user,pass,method,target,body,bz,n⟩,eO,wI ⟨decide (fI=3),true,iy,eO,.empty,user,pass,method,target,body,bz,n⟩]from by unfold nO;rw[aB rfl]);go_wp2_with fail
    refine(HH.o _ [o1,eO,t2] _ (by repeat(first|exact EN.o|refine bF ?_ nY|apply bq|apply aA)) (fQ _ _ [o1,eO,t2] (aZ rfl)) (aZ rfl) (by rw[EM];omega)).mono ?_;rintro e u9⟨rfl,Xm⟩;go_wp2;go_ret;exact⟨by rw[HR.o,HO.o,HT.o];rfl,bF (by repeat(first|exact EN.o|refine bF ?_ nY|apply bq|apply aA)) Xm⟩
   ·have Xn:¬mR.toList=[]:=fun h=>Pf (by rw[aN]at h;exact Go.WideShapes.bytes_inj h);have hq4:mR.toList.isEmpty=false:=by cases hz:mR.toList with|nil=>exact absurd hz Xn|cons _ _=>rfl
    have HR:=O (show nO ⟨decide (fI=3),true,iy,eO,mR,user,pass,method,target,body,bz,n⟩=ko (decide (fI=3)) [D0 ⟨decide (fI=3),true,iy,eO,mR,user,pass,method,target,body,bz,n⟩,eO,⟨(jr n).toArray⟩,bz,mR,wI ⟨decide (fI=3),true,iy,eO,mR,user,pass,method,target,body,bz,n⟩]from by unfold nO;rw[ay Pf])
    have VU:=O (fun(U:World) (hU:Fr aX wb U)=>And.intro (HC.o U hU).1 (And.intro (HC.o U hU).2.1 (HC.o U hU).2.2.2));go_wp2_with fail
    go_region_held3 (fun U=>U.cell? ⟨w.heap.size,0,none⟩=some (.int .i64 fI)/\U.cell? ⟨w.heap.size,2,none⟩=some (.string eO)/\U.cell? ⟨w.heap.size,5,none⟩=some (.string mR)) ((refine VU.o _ ?_;repeat(first|exact wR.o|refine bF ?_ rY|refine bF ?_ nY|apply bq|apply aA))) (first|(go_at_call 111;refine(qO n _ zn (HDB.o.fr (by repeat(first|exact EN.o|refine bF ?_ nY|apply bq|apply aA)))).mono ?_;rintro e w7 ⟨rfl,nY⟩)|(go_at_call 160;refine(HH.o _ [o1,eO,⟨(jr n).toArray⟩,bz,mR,t2] _ (by repeat(first|exact EN.o|refine bF ?_ nY|apply bq|apply aA)) (fQ _ _ _ (aZ rfl)) (aZ rfl) (by rw[NY];have:=t_ n;omega)).mono ?_;rintro e w8 ⟨rfl,rY⟩))
    all_goals
     have Cw:=O (show Fr aX w w8 from bF (by repeat(first|exact EN.o|refine bF ?_ nY|apply bq|apply aA)) rY);clear rY;go_wp2;go_ret;exact⟨by rw[HR.o,HO.o,HT.o];rfl,Cw.o⟩
def nw(path query:ai):ai:=if query.size=0 then path else(path++⟨#[63]⟩)++query
theorem OwnRows.kind(h:OwnRows b e k w v xs)(hg:own v g):∃c,w.heap[g]?=some (.cells c e (0,0)):=by
 obtain⟨cap,cur,_,_,h2,_⟩:=h.open hg;exact⟨cur,h2⟩
def dk(b:Nat)(gv wv:Value):dB:=fun k=>k=b\/own gv k\/own wv k
section
variable {base : Nat} {w w' : World} {b : Nat} {gv wv : Value} {gs : List (aU bG)} {ws : List (bL bG)}
theorem dC.tB(h:dC base w b gv wv gs ws)(hk:own gv k):∃c,w.heap[k]?=some (.cells c 133 (0,0)):=by
 obtain⟨rs,h1,_⟩:=h.bZ;exact h1.kind hk
theorem dC.vJ(h:dC base w b gv wv gs ws)(hk:own wv k):∃c,w.heap[k]?=some (.cells c 129 (0,0)):=by
 obtain⟨rs,h1,_⟩:=h.waits;exact h1.kind hk
theorem dC.gw(h:dC base w b gv wv gs ws)(hk:own gv k):¬own wv k:=by
 intro h2;obtain⟨c,e1⟩:=h.tB hk;obtain⟨d,e2⟩:=h.vJ h2;rw[e1]at e2;cases e2
theorem dC.gb(h:dC base w b gv wv gs ws):¬own gv b:=by
 intro h2;obtain⟨c,e1⟩:=h.tB h2;have e2:=h.eK;rw[e1]at e2;cases e2
theorem dC.wb(h:dC base w b gv wv gs ws):¬own wv b:=by
 intro h2;obtain⟨c,e1⟩:=h.vJ h2;have e2:=h.eK;rw[e1]at e2;cases e2
theorem dC.afM(h:dC base w b gv wv gs ws)(hk:own gv k):base<=k:=by
 obtain⟨rs,h1,_⟩:=h.bZ;exact h1.block k hk
theorem dC.afN(h:dC base w b gv wv gs ws)(hk:own wv k):base<=k:=by
 obtain⟨rs,h1,_⟩:=h.waits;exact h1.block k hk
theorem dC.off(h:dC base w b gv wv gs ws):rJ base w (dk b gv wv):=by
 intro k hk _;rcases hk with rfl|hk|hk
 ·exact⟨h.low,fun c f e=>by rw[h.eK]at e;cases e⟩
 ·obtain⟨c,e1⟩:=h.tB hk;exact⟨h.afM hk,fun c f e=>by rw[e1]at e;cases e⟩
 ·obtain⟨c,e1⟩:=h.vJ hk;exact⟨h.afN hk,fun c f e=>by rw[e1]at e;cases e⟩
end
def kp(base:Nat)(w:World)(b:Nat)(gv wv:Value)(gs:List (aU bG))(ws:List (bL bG))(w':World):Prop :=
 ∃gv' wv',dC base w' b gv' wv' gs ws/\Fr (dk b gv wv) w w'/\∀k,dk b gv' wv' k->dk b gv wv k\/w.heap.size<=k
def CR(go:gz)(gx:Bool)(gr:ai)(o:gz)(proxy:Bool)(aO:ai):Bool:=go.kM o&&(gx==proxy&&gr.toList==aO.toList)
def mM(o:gz)(proxy:Bool)(aO:ai)(g:aU bG):Bool:=CR g.o g.proxy g.a.aO o proxy aO
def Jt(o:gz)(proxy:Bool)(aO:ai)(x:a_):Bool:=CR (aeJ x) (cB x 3) (cS x 7) o proxy aO
theorem Ju(g:aU Value)(o:gz)(proxy:Bool)(aO:ai)(w:World) :
  aE 116 #[.agg g.cells.toArray,.agg o.cells.toArray,.bool proxy,.string aO] w fun e w'=>e=.returned (.bool (CR g.o g.proxy g.a.aO o proxy aO))/\Fr aX w w':=by
 have heq:=j8 g.o o;unfold aU.cells gz.cells;cases e1:g.o.kM o
 ·have HR:=O (show CR g.o g.proxy g.a.aO o proxy aO=false by unfold CR;rw[e1];rfl);go_enter func116,ntmps116;go_wp2;go_ret;exact⟨by rw[HR.o];rfl,((ae _ _).alloc _).alloc _⟩
 ·have HR:=O (show CR g.o g.proxy g.a.aO o proxy aO=(g.proxy==proxy&&g.a.aO.toList==aO.toList)by unfold CR;rw[e1];rfl);cases e2:g.proxy==proxy
  ·go_enter func116,ntmps116;go_wp2;go_ret;exact⟨by rw[HR.o,e2];rfl,((ae _ _).alloc _).alloc _⟩
  ·go_enter func116,ntmps116;go_wp2;go_ret;exact⟨by rw[HR.o,e2];rfl,((ae _ _).alloc _).alloc _⟩
theorem PD(g:aU Value)(ec:∀u∈g.cells,u.oneCell'=true)(o:gz)(proxy:Bool)(aO:ai)(bo bp br:Nat)(w:World)(ho:w.heap[bo]?=some (.cells #[.bool o.aD,.string o.host,.int .i64 o.port] 24 (0,0)))
  (hp:w.heap[bp]?=some (.cells #[.bool proxy] 4 (0,0)))(hr:w.heap[br]?=some (.cells #[.string aO] 9 (0,0))) :
  aE 115 #[.agg g.cells.toArray,.pointer (some ⟨bo,0,none⟩),.pointer (some ⟨bp,0,none⟩),.pointer (some ⟨br,0,none⟩)] w fun e w'=>e=.returned (.bool (Jt o proxy aO g.cells))/\Fr aX w w':=by
 obtain⟨x,hx⟩:∃x,x=g.cells:=⟨_,rfl⟩;have lI:x.length=16:=by rw[hx];rfl
 have HX:=O hx;have ET:=O (Gn lI);have iQ:=fun W=>run_storeCells_new (P:=prog) W 133 #[.bool false,.string ⟨#[]⟩,.int .i64 0,.bool false,.string ⟨#[]⟩,.string ⟨#[]⟩,.int .i64 0,.string ⟨#[]⟩,.string ⟨#[]⟩,.string ⟨#[]⟩,.bool false,.string ⟨#[]⟩,.bool false,.slice none 0 0,.int .i64 0,.slice none 0 0] x (by rw[lI];rfl) (by rw[hx];exact ec)
 have ix:Fr aX w (w.alloc (.cells x.toArray 133)):=(ae aX w).alloc _;have qD:=O (ix.keep ho id);have EA:=ix.keep hp id;have pN:=ix.keep hr id;have cp:(w.alloc (.cells x.toArray 133)).cell? ⟨bp,0,none⟩=some (.bool proxy):=by simp only[World.cell?,EA];rfl
 have cr:(w.alloc (.cells x.toArray 133)).cell? ⟨br,0,none⟩=some (.string aO):=by simp only[World.cell?,pN];rfl
 have fF:=O (Ju g o proxy aO (w.alloc (.cells x.toArray 133)));rw[<-hx];rw[<-hx]at fF;clear hx ho hp hr EA pN;go_enter func115,ntmps115
 go_wp2_with (first|((with_reducible refine dt 6 ?_);refine aJ rfl 133 (.tmp 4) rfl w.heap.size rfl _ x.toArray (0,0) _ (aC w _) underlying133 rfl (by rw[bd];exact ET.o) ?_)|((with_reducible refine dt 7 ?_);refine aJ rfl 24 (.tmp 1) rfl bo rfl _ _ (0,0) _ qD.o underlying24 rfl af ?_)|fail)
 refine fF.o.mono ?_;rintro e w2⟨rfl,dF⟩;go_wp2;go_ret;rw[HX.o];exact⟨rfl,ix.trans dF⟩
theorem D4(S:dB)(w:World)(o:gz)(proxy:Bool)(aO:ai)(bo bp br:Nat)(rs:List (aU Value))(ec:∀r∈rs,∀u∈r.cells,u.oneCell'=true)
  (ho:w.heap[bo]?=some (.cells #[.bool o.aD,.string o.host,.int .i64 o.port] 24 (0,0)))(hp:w.heap[bp]?=some (.cells #[.bool proxy] 4 (0,0)))(hr:w.heap[br]?=some (.cells #[.string aO] 9 (0,0)))
  (h1:¬S bo)(h2:¬S bp)(h3:¬S br) :
  hD S w 115 #[.pointer (some ⟨bo,0,none⟩),.pointer (some ⟨bp,0,none⟩),.pointer (some ⟨br,0,none⟩)] (Jt o proxy aO) (rs.map aU.cells):=by
 intro x hx u hu;obtain⟨r,hr0,rfl⟩:=cz.1 hx;exact PD r (ec r hr0) o proxy aO bo bp br u (hu.keep ho h1) (hu.keep hp h2) (hu.keep hr h3)
theorem dC.afO{base:Nat}{w:World}{b:Nat}{gv0 gv wv:Value}{gs:List (aU bG)}{ws:List (bL bG)}(hl:base<=b)(hb:w.heap[b]?=some (.cells #[gv0,wv] 118 (0,0)))(hg:g_ base w gv gs)(hw:jY base w wv ws) :
  dC base (w.setCell ⟨b,0,none⟩ gv) b gv wv gs ws:=by
 have ru:rJ base w (one b):=by
  rintro k rfl _;exact⟨hl,fun c f e=>by rw[hb]at e;cases e⟩
 have kx:Fr (one b) w (w.setCell ⟨b,0,none⟩ gv):=(ae (one b) w).setCell (p:=⟨b,0,none⟩) (fun _=>rfl) _;refine⟨hl,cg hb 0 gv,hg.fr kx ru ?_,hw.fr kx ru ?_⟩
 ·rintro k hk rfl;obtain⟨rs,h1,_⟩:=hg;obtain⟨c,e⟩:=h1.kind hk;rw[hb]at e;cases e
 ·rintro k hk rfl;obtain⟨rs,h1,_⟩:=hw;obtain⟨c,e⟩:=h1.kind hk;rw[hb]at e;cases e
theorem dC.abO{wv0 gv wv:Value}{gs:List (aU bG)}{ws:List (bL bG)}(hl:base<=b)(hb:w.heap[b]?=some (.cells #[gv,wv0] 118 (0,0)))(hg:g_ base w gv gs)(hw:jY base w wv ws) :
  dC base (w.setCell ⟨b,1,none⟩ wv) b gv wv gs ws:=by
 have ru:rJ base w (one b):=by
  rintro k rfl _;exact⟨hl,fun c f e=>by rw[hb]at e;cases e⟩
 have kx:Fr (one b) w (w.setCell ⟨b,1,none⟩ wv):=(ae (one b) w).setCell (p:=⟨b,1,none⟩) (fun _=>rfl) _;refine⟨hl,cg hb 1 wv,hg.fr kx ru ?_,hw.fr kx ru ?_⟩
 ·rintro k hk rfl;obtain⟨rs,h1,_⟩:=hg;obtain⟨c,e⟩:=h1.kind hk;rw[hb]at e;cases e
 ·rintro k hk rfl;obtain⟨rs,h1,_⟩:=hw;obtain⟨c,e⟩:=h1.kind hk;rw[hb]at e;cases e
theorem g_.yS{base:Nat}{w:World}{v:Value}{rs:List (aU Value)}{gs:List (aU bG)}{p:a_->Bool}{q:aU bG->Bool}(h1:OwnRows base 133 16 w v ((rs.map aU.cells).filter (fun x=>!p x)))(h2:ld (aU.Reads (df base w)) rs gs)
  (Zq:∀r g,aU.Reads (df base w) r g->p r.cells=q g):g_ base w v (gs.filter (fun g=>!q g))/\((rs.map aU.cells).filter (fun x=>!p x)).length=(gs.filter (fun g=>!q g)).length:=by
 have hb:ld (aU.Reads (df base w)) (rs.filter (fun r=>!p r.cells)) (gs.filter (fun g=>!q g)):=h2.filter (fun r g h=>by rw[Zq r g h]);have he:(rs.map aU.cells).filter (fun x=>!p x)=(rs.filter (fun r=>!p r.cells)).map aU.cells:=by rw[List.filter_map];rfl
 refine⟨⟨_,by rw[he]at h1;exact h1,hb⟩,?_⟩;rw[he,aj,hb.len]
theorem AO{r:aU Value}{g:aU bG}(h:aU.Reads (df base w) r g)(o:gz)(proxy:Bool)(aO:ai):Jt o proxy aO r.cells=mM o proxy aO g:=by
 obtain⟨h1,h2,_,_,⟨_,h3,_⟩,_⟩:=h;unfold mM;rw[<-h1, <-h2, <-h3];rfl
def vK(base:Nat)(w:World)(b:Nat)(gv wv:Value)(gs:List (aU bG))(ws:List (bL bG))(q:aU bG->Bool)(e:Ending)(w':World):Prop :=
 e=.returned (.bool (decide ((gs.filter (fun g=>!q g)).length<gs.length)))/\kp base w b gv wv (gs.filter (fun g=>!q g)) ws w'
theorem yT(base:Nat)(w:World)(b:Nat)(gv wv:Value)(gs:List (aU bG))(ws:List (bL bG))(o:gz)(proxy:Bool)(aO:ai)(h:dC base w b gv wv gs ws) :
  aE 75 #[.pointer (some ⟨b,0,none⟩),.agg o.cells.toArray,.bool proxy,.string aO] w (vK base w b gv wv gs ws (mM o proxy aO)):=by
 unfold gz.cells;obtain⟨av,cv,hv⟩:=h.bZ.form;subst hv;have tK:=h.lt;have kO:=h.low;have oL:Fr aX w _:=(((ae aX w).alloc (.cells #[.bool o.aD,.string o.host,.int .i64 o.port] 24)).alloc (.cells #[.bool proxy] 4)).alloc (.cells #[.string aO] 9)
 have b0:(((w.alloc (.cells #[.bool o.aD,.string o.host,.int .i64 o.port] 24)).alloc (.cells #[.bool proxy] 4)).alloc (.cells #[.string aO] 9)).heap[w.heap.size]?=some (.cells #[.bool o.aD,.string o.host,.int .i64 o.port] 24 (0,0)):=by
  rw[Below.heap_alloc _ _ _ bH,Below.heap_alloc _ _ _ aS];exact aC _ _
 have b1:(((w.alloc (.cells #[.bool o.aD,.string o.host,.int .i64 o.port] 24)).alloc (.cells #[.bool proxy] 4)).alloc (.cells #[.string aO] 9)).heap[w.heap.size+1]?=some (.cells #[.bool proxy] 4 (0,0)):=by
  rw[Below.heap_alloc _ _ _ aS];have h:=aC (w.alloc (.cells #[.bool o.aD,.string o.host,.int .i64 o.port] 24)) (.cells #[.bool proxy] 4);simpa using h
 have b2:(((w.alloc (.cells #[.bool o.aD,.string o.host,.int .i64 o.port] 24)).alloc (.cells #[.bool proxy] 4)).alloc (.cells #[.string aO] 9)).heap[w.heap.size+2]?=some (.cells #[.string aO] 9 (0,0)):=by
  have h:=aC ((w.alloc (.cells #[.bool o.aD,.string o.host,.int .i64 o.port] 24)).alloc (.cells #[.bool proxy] 4)) (.cells #[.string aO] 9);simpa using h
 have h1:=h.dx oL;have h0:=h1.c0;have B0:=O b0;have B1:=O b1;have B2:=O b2;clear b0 b1 b2;go_enter func75,ntmps75;go_wp2_with fail
 clear h0;generalize ((w.alloc (.cells _ 24)).alloc _).alloc _=W at *
 obtain⟨rs,zO,qD⟩:=h1.bZ;have ec:∀r∈rs,∀u∈r.cells,u.oneCell'=true:=fun r hr=>(zO.1 r.cells (cz.2 ⟨r,hr,rfl⟩)).2;have hW:w.heap.size<=W.heap.size:=oL.size;have VY:∀k,own (.slice av gs.length cv) k->k<w.heap.size:=fun k hk=>by
  obtain⟨c,e⟩:=h.tB hk;exact bg e
 have hd:=O (w_ base 115 #[.pointer (some ⟨w.heap.size,0,none⟩),.pointer (some ⟨w.heap.size+1,0,none⟩),.pointer (some ⟨w.heap.size+1+1,0,none⟩)] (Jt o proxy aO) _ _ W call115
  (D4 _ W o proxy aO w.heap.size (w.heap.size+1) (w.heap.size+1+1) rs ec B0.o B1.o B2.o (fun hk=>by have:=VY _ hk;omega) (fun hk=>by have:=VY _ hk;omega) (fun hk=>by have:=VY _ hk;omega)) zO)
 refine hd.o.mono ?_;rintro e w2⟨a2,c2,rfl,xx,dF,fy⟩;have Tj:=qD.mono (fun _ _ h=>h.mono (fun _ _ h=>h.fr dF (fun k hk hl=>h1.off k (Or.inr (Or.inl hk)) hl)));obtain⟨VS,LV⟩:=g_.yS xx Tj (fun r g h=>AO h o proxy aO);rw[LV]at VS fy ⊢;have jX:=dF.keep h1.eK h1.gb;have eC:=h1.waits.fr dF (fun k hk hl=>h1.off k (Or.inr (Or.inl hk)) hl) (fun k hk hg=>h1.gw hg hk);have qy:=O (dC.afO kO jX VS eC)
 have c0:w2.cell? ⟨b,0,none⟩=some (.slice av gs.length cv):=by simp[World.cell?,jX]
 have f0:w2.frozen? ⟨b,0,none⟩=false:=by simp[World.frozen?,jX]
 have Xk:Fr (dk b (.slice av gs.length cv) wv) w w2:=fN (oL.mono (fun _ _ h=>absurd h id)) dF (fun k _ hk=>Or.inr (Or.inl hk));have HB:=Xk.setCell (p:=⟨b,0,none⟩) (fun _=>Or.inl rfl) (.slice a2 (gs.filter (fun g=>!mM o proxy aO g)).length c2);have kL:∀k,dk b (.slice a2 (gs.filter (fun g=>!mM o proxy aO g)).length c2) wv k->dk b (.slice av gs.length cv) wv k\/w.heap.size<=k:=by
  intro k hk;unfold dk at hk;rw[fy]at hk;exact Or.inl hk
 clear hd zO qD Tj xx jX eC VS h1 ec VY LV Xk;obtain⟨fs,kx⟩:∃fs,fs=gs.filter (fun g=>!mM o proxy aO g):=⟨_,rfl⟩;rw[<-kx]at qy fy HB kL ⊢;have Tk:=O kx;clear kx;go_wp2_with fail
 go_ret;unfold vK;rw[<-Tk.o];exact⟨fS aS,_,_,qy.o,HB,kL⟩
abbrev nx := @dC.afO
theorem PR(a:fX bG)(x:mW):a.scheme<=(po a x).scheme:=by
 unfold po;split
 ·exact gq _
 ·split
  ·omega
  ·exact gq _
theorem XP:∀(l:List mW) (a:fX bG),a.scheme<=(l.foldl po a).scheme
 |[],_=>gq _
 |x :: l,a=>Int.le_trans (PR a x) (XP l (po a x))
theorem Ob:∀(l:List mW) (a:fX bG),l.foldl po a=a\/∃x∈l,mN x=some (l.foldl po a)
 |[],_=>Or.inl rfl
 |x :: l,a=>by
  rw[List.foldl_cons];rcases Ob l (po a x)with h|⟨y,hy,h⟩
  ·rw[h];unfold po;split
   ·exact Or.inl rfl
   ·rename_i b hb;split
    ·exact Or.inr ⟨x,cY .., hb⟩
    ·exact Or.inl rfl
  ·exact Or.inr ⟨y,bV _ hy,h⟩
def QY(p:gT):Bool:=decide ((300:Int)<(p.1.size:Int)+(p.2.size:Int))
def KK(ps:List gT):Bool:=decide (ps.length<=40)&&!(ps.any QY)
def Ov:a_->gT
 |[.string a,.string b]=>(a,b)
 |_=>(ByteArray.empty,ByteArray.empty)
theorem Y7(v:Value)(ps:List gT)(w:World)(hv:ot w v ps)(hl:ps.length<=140737488355328)(hz:∀p∈ps,p.1.size<=140737488351232/\p.2.size<=140737488351232) :
  aE 38 #[v] w fun e w'=>e=.returned (.bool (KK ps))/\Fr aX w w':=by
 obtain⟨av,cv,gi⟩:=hv.form;rw[aj]at gi;subst gi;have Qn:=O (Bq _ #[] (fun x=>QY (Ov x)) _ _ w call67 (fun x hx u _=>by
  obtain⟨p,hp,rfl⟩:=cz.1 hx;exact Vu p.1 p.2 u (hz p hp).1 (hz p hp).2) hv)
 have jd:=O (show(ps.map gT.cells).any (fun x=>QY (Ov x))=ps.any QY by rw[List.any_map];rfl);by_cases FM:ps.length<=40
 ·have hb:=O (show KK ps=!(ps.any QY)by unfold KK;rw[bD FM];rfl);have i40:(ps.length:Int)<=40:=ab;have d40:decide ((ps.length:Int)<=40)=true:=bD i40;go_enter func38,ntmps38;go_wp2_with fail
  refine Qn.o.mono ?_;rw[jd.o];rintro e u⟨rfl,hf⟩;go_wp2;go_ret;exact⟨fS hb.o.symm,hf⟩
 ·have hb:=O (show KK ps=false by unfold KK;rw[bf FM];rfl);have i40:¬(ps.length:Int)<=40:=ab;have d40:decide ((ps.length:Int)<=40)=false:=bf i40;go_enter func38,ntmps38;go_wp2;go_ret;exact⟨fS hb.o.symm,ae _ _⟩
def sX(l:Bs):Bs:=if l.getLast?=some 13 then l.dropLast else l
def trimB(l:Bs):Bs:=Lib.trimS l [32,9]
def B'(l:Bs):Option (Option jn) :=
 if(sX l).isEmpty then some none
 else if !(mg 58 (sX l)).2.2||!zI (mg 58 (sX l)).1 then none
 else some (some ((mg 58 (sX l)).1,trimB (mg 58 (sX l)).2.1))
def kB:List Bs->List jn->Except Nat (List jn)
 |[],acc=>.ok acc
 |l :: ls,acc =>
  match B' l with
  |none=>.error 3
  |some none=>kB ls acc
  |some (some p)=>if acc.length=40 then .error 4 else kB ls (acc++[p])
def mE(s:Bs):Except Nat (List jn):=if 3000<s.length then .error 4 else kB (dY 10 s) []
def xy(ps:List jn)(n:Bs):List Bs:=(ps.filter fun p=>dH p.1 n).map (·.2)
def kS(ps:List jn)(n:Bs):Bs:=Lib.join (xy ps n) [44,32]
def p_(ps:List jn)(n:Bs):Bool:=!(xy ps n).isEmpty
theorem WB(x y:Bs)(l:List Bs)(sep:Bs):Lib.join (x :: y :: l) sep=x++(sep++Lib.join (y :: l) sep):=by
 simp[Lib.join,List.intercalate]
def qF:Bs:=[65,99,99,101,115,115,45,67,111,110,116,114,111,108,45,65,108,108,111,119,45,79,114,105,103,105,110]
def IL:Bs:=[65,99,99,101,115,115,45,67,111,110,116,114,111,108,45,65,108,108,111,119,45,67,114,101,100,101,110,116,105,97,108,115]
def IM:Bs:=[65,99,99,101,115,115,45,67,111,110,116,114,111,108,45,65,108,108,111,119,45,77,101,116,104,111,100,115]
def xz:Bs:=[65,99,99,101,115,115,45,67,111,110,116,114,111,108,45,65,108,108,111,119,45,72,101,97,100,101,114,115]
def F0:Bs:=[65,99,99,101,115,115,45,67,111,110,116,114,111,108,45,77,97,120,45,65,103,101]
def Lp(t:Bs)(fq:Bool)(ps:List jn):Bool :=
 if !p_ ps qF then false
 else if(kS ps qF== [42])&&!fq then true
 else if kS ps qF !=t then false
 else !fq||(kS ps IL==lD)
def mP(ps:List jn):Int:=if p_ ps F0 then(if oq (kS ps F0)then min (yq (kS ps F0)) 600 else 5)else 5
theorem Lq(ps:List jn):0<=mP ps/\mP ps<=600/\(p_ ps F0=true\/mP ps=5):=by
 unfold mP;split
 ·rename_i h;split
  ·rename_i hd;unfold oq at hd;simp only[cF]at hd;have:=xt (kS ps F0) 0 hd.2 ag ag;unfold yq;exact⟨ab,ab,Or.inl h⟩
  ·exact⟨ag,ag,Or.inl h⟩
 ·exact⟨ag,ag,Or.inr rfl⟩
def kI(ps:List jn)(n:Bs):Option (List Bs) :=
 match gO (kS ps n)with
 | .error _=>none
 | .ok l=>if 40<l.length then none else some l
def pO(ps:List ep)(p:ep):List ep:=if ps.any (fun q=>q.kM p)then ps else ps++[p]
def qE.Ca(r:qE)(pC:Int)(m h:ai):ep:=⟨r.cG,r.o,r.path,r.query,r.fq,m,h,pC⟩
def qE.methods(r:qE)(ms:List Bs):List ai:=if ms.isEmpty then [jB r.method]else ms.map bA
def qE.bZ(r:qE)(pC:Int)(ms hs:List Bs):List ep :=
 (hs.map fun h=>r.Ca pC (bA []) (bA (mX h))).foldl pO ((r.methods ms |>.map fun m=>r.Ca pC m (bA [])).foldl pO [])
def tV(r:qE)(t:Bs)(ps:List jn)(now:Int):Except Nat (List ep) :=
 match kI ps IM,kI ps xz with
 |some ms,some hs =>
  if !Lp t r.fq ps then .error 6
  else if !r.mO (r.bZ (now+mP ps) ms hs)then .error 6
  else .ok (r.bZ (now+mP ps) ms hs)
 |_,_=>.error 3
def wV(n p:Nat)(e:Ending)(w':World):Prop :=
 ∃g,e=.returned (.iface 220 (.pointer (some ⟨g,0,none⟩)))/\w'.heap[g]?=some (.cells #[.int .i64 n,.int .i64 p] 222 (0,0))
theorem wV.new(n p:Nat)(w:World):wV n p (.returned (.iface 220 (.pointer (some ⟨w.heap.size,0,none⟩)))) (w.alloc (.cells #[.int .i64 n,.int .i64 p] 222 (0,0))):=⟨_,rfl,aC _ _⟩
theorem sZ(b c i n:Nat)(s:ai)(v:Value)(w:World)(hr:iw w b c s v)(h:dm w c s i) :
  aE 168 #[.pointer (some ⟨b,0,none⟩),.int .i64 n] w fun e w'=>wV n i e w'/\Fr aX w w':=by
 have q0:=hr.cell0;go_enter func168,ntmps168;go_wp2_with fail
 refine(zH c s i w h).mono ?_;rintro e w1⟨rfl,rfl⟩;go_wp2;go_ret;exact⟨wV.new n i w,(ae _ _).alloc _⟩
theorem mH(l:Bs):(bA l).toList=l:=toList_mk l
def nX(p:jn):a_:=[.string (bA p.1),.string (bA p.2)]
def ks(w:World)(x:Nat)(sc tok:ai)(pv:Value):Prop:=w.heap[x]?=some (.cells #[.string sc,.string tok,pv] 208 (0,0))
section
variable {w w' : World} {x : Nat} {sc tok : ByteArray} {pv : Value}
theorem ks.cell0(h:ks w x sc tok pv):w.cell? ⟨x,0,none⟩=some (.string sc):=by simp[World.cell?,show w.heap[x]?=_ from h]
theorem ks.gU(h:ks w x sc tok pv):w.cell? ⟨x,1,none⟩=some (.string tok):=by simp[World.cell?,show w.heap[x]?=_ from h]
theorem ks.lQ(h:ks w x sc tok pv):w.cell? ⟨x,2,none⟩=some pv:=by simp[World.cell?,show w.heap[x]?=_ from h]
theorem ks.free(h:ks w x sc tok pv)(k:Nat):w.frozen? ⟨x,k,none⟩=false:=by simp[World.frozen?,show w.heap[x]?=_ from h]
theorem ks.fr{S:dB}(h:ks w x sc tok pv)(hf:Fr S w w')(hn:¬S x):ks w' x sc tok pv:=hf.keep h hn
theorem ks.lt(h:ks w x sc tok pv):x<w.heap.size:=bg h
theorem ks.ne(h:ks w x sc tok pv)(g:dm w c t i):x≠c:=by
 intro e;subst e;have h':w.heap[x]?=_:=h;have g':w.heap[x]?=_:=g;rw[h']at g';simp at g'
theorem ks.neR(h:ks w x sc tok pv)(g:iw w b c t v):x≠b:=by
 intro e;subst e;have h':w.heap[x]?=_:=h;have g':w.heap[x]?=_:=g;rw[h']at g';simp at g'
end
theorem OwnRows.AE(h:OwnRows base e k w v xs)(hg:v.ownBlock=some g):∃cur,w.heap[g]?=some (.cells cur e (0,0)):=by
 rcases h.2.2 with ⟨hv,_⟩|⟨g',cap,cur,hv,_,hh,_⟩
 ·rw[hv]at hg;simp[Value.ownBlock]at hg
 ·rw[hv]at hg;simp[Value.ownBlock]at hg;subst hg;exact⟨cur,hh⟩
theorem OwnRows.not{t:TypeId}{cs:bW}{f:Nat×Nat}(h:OwnRows base e k w v xs)(hb:w.heap[g]?=some (.cells cs t f))(ht:t≠e):v.ownBlock≠some g:=by
 intro hg;obtain⟨cur,hc⟩:=h.AE hg;rw[hc]at hb;cases hb;exact ht rfl
def wW(w:World)(x:Nat)(a b:ai):Prop:=w.heap[x]?=some (.cells #[.string a,.string b] 142 (0,0))
def F_(c x:Nat)(pv:Value):dB:=fun k=>k=c\/k=x\/pv.ownBlock=some k
def nM(base c x i:Nat)(s:ai)(ps:List jn)(sc tok:ai)(pv:Value)(w:World)(e:Ending)(w':World):Prop :=
 Fr (F_ c x pv) w w'/\match kG ps (s.data.toList.drop i)with
  | .error n=>∃p,wV n p e w'
  | .ok q=>e=.returned .nilIface/\∃j IX,j<=s.size/\dm w' c s j/\s.data.toList.drop j=q.2/\ks w' x sc tok IX/\OwnRows base 142 2 w' IX ((ps++[q.1]).map nX)
theorem nM.bad{x n p:Nat}{s:ai}{sc tok:ai}{pv:Value}{w':World}{e:Ending}(h:kG ps (s.data.toList.drop i)=.error n)(hf:Fr (F_ c x pv) w w')(he:wV n p e w'):nM base c x i s ps sc tok pv w e w':=by
 refine⟨hf,?_⟩;rw[h];exact⟨p,he⟩
theorem F'(s:ai)(i:Nat):s.data.toList.drop (eK s (eK s (Hh s i)+1))=nv (s.data.toList.drop i):=by
 unfold nv;rw[<-vy, <-ou s (Hh s i),ey,ou]
def abc(base b c x P i:Nat)(s:ai)(v:Value)(ps:List jn)(sc tok:ai)(pv:Value)(W:Bs)(w wx:World):Prop :=
 ∃val j,j<=s.size/\dm wx c s j/\wW wx P (bA W) (bA val)/\iw wx b c s v/\ks wx x sc tok pv/\OwnRows base 142 2 wx pv (ps.map nX)/\Fr (F_ c x pv) w wx /\
  kG ps (s.data.toList.drop i)=(if tP ps W then .error 9 else if ps.length=16 then .error 4 else .ok ((W,val),s.data.toList.drop j))
theorem OX(l:Bs)(k:Nat):gD l k=(zK (l.drop k)).map fun q=>(q.1,l.length-q.2.length):=by
 unfold gD;rcases fD k l.length with h|h
 ·rw[List.getElem?_eq_getElem h,cP h];show _=Option.map _ (if l[k]==34 then uY (l.drop (k+1))else none);by_cases hq:l[k]=34
  ·rw[hq,aB rfl,aB bB];unfold sx;simp
  ·rw[ay (by simpa using hq),ay (by simpa using hq)];rfl
 ·rw[List.getElem?_eq_none h,cO h,ay aS];rfl
theorem NI(l:Bs):(bA l).size=l.length:=rfl
def aeV(ps:List jn)(W:Bs)(w:World)(t:Value)(wr:World):Prop:=∃k:Nat,k<=ps.length/\t=.int .i64 k/\(ps.take k).any (fun q=>dH q.1 W)=false/\Fr aX w wr
theorem vz{v:Bs}(h:ps[k]?=some (n,v))(hn:(ps.take k).any (fun q=>dH q.1 W)=false)(hp:dH n W=false):(ps.take (k+1)).any (fun q=>dH q.1 W)=false:=by
 rw[cD,h];simp only[List.any_append,hn,Option.toList_some,List.any_cons,hp,List.any_nil,Bool.or_false]
theorem Sg{v:Bs}(h:ps[k]?=some (n,v))(hp:dH n W=true):tP ps W=true:=by
 unfold tP;rw[List.any_eq_true];exact⟨_,cL h,hp⟩
theorem IY:(prog.info? 142).map (fun i=>(i.zero,i.size,i.bytes))=some (some (.agg #[.string ⟨#[]⟩,.string ⟨#[]⟩]),2,32):=af
theorem NJ(p:jn):∀u∈nX p,u.oneCell'=true:=by
 intro u hu;simp only[nX,bE,bU,dL]at hu;rcases hu with rfl|rfl<;>rfl
theorem Si(ps:List jn):∀x∈ps.map nX,x.length=2/\∀u∈x,u.oneCell'=true:=by
 intro x hx;obtain⟨p,_,rfl⟩:=cz.1 hx;exact⟨rfl,NJ p⟩
theorem xB:∀(f:Nat) (r a z:Bs),r.length<=f->uY r=some (a,z)->z <:+ r
 |0,r,a,z,hf,h=>by
  have:r=[]:=b_ ab;subst this;rw[uY.eq_def]at h;simp at h
 |f+1,[],a,z,hf,h=>by rw[uY.eq_def]at h;simp at h
 |f+1,x :: r,a,z,hf,h=>by
  rw[uY.eq_def]at h;simp only at h;by_cases h1:(x==34)=true
  ·rw[aB h1]at h;cases h;exact jo _ _
  ·rw[ay h1]at h;by_cases h2:(x==92)=true
   ·rw[aB h2]at h;cases r with
    |nil=>simp at h
    |cons y r' =>
     simp only at h;by_cases h3:mY y=true
     ·rw[aB h3]at h;cases hq:uY r' with
      |none=>rw[hq]at h;simp at h
      |some p =>
       rw[hq]at h;simp at h;obtain⟨rfl,rfl⟩:=h;have:=xB f r' p.1 p.2 (by simp at hf;omega) hq;exact(this.trans (jo _ _)).trans (jo _ _)
     ·rw[ay h3]at h;simp at h
   ·rw[ay h2]at h;by_cases h3:mY x=true
    ·rw[aB h3]at h;cases hq:uY r with
     |none=>rw[hq]at h;simp at h
     |some p =>
      rw[hq]at h;simp at h;obtain⟨rfl,rfl⟩:=h;have:=xB f r p.1 p.2 (by simp at hf;omega) hq;exact this.trans (jo _ _)
    ·rw[ay h3]at h;simp at h
theorem IZ(h:z <:+ l):l.drop (l.length-z.length)=z:=by
 obtain⟨t,rfl⟩:=h;rw[aM,Nat.add_sub_cancel,List.drop_left'];rfl
theorem I2{a:Bs}(h:zK (l.drop k)=some (a,z)):l.drop (l.length-z.length)=z:=by
 refine IZ (List.IsSuffix.trans ?_ (List.drop_suffix k l));cases hd:l.drop k with
 |nil=>rw[hd]at h;cases h
 |cons c t =>
  rw[hd]at h;have h':(if c==34 then uY t else none)=some (a,z):=h;by_cases hc:(c==34)=true
  ·rw[aB hc]at h';exact(xB _ t a z (az _) h').trans (jo _ _)
  ·rw[ay hc]at h';cases h'
theorem OY(base b c x i:Nat)(s:ai)(v:Value)(ps:List jn)(sc tok:ai)(pv:Value)(w:World)(hr:iw w b c s v)(h:dm w c s i)(hx:ks w x sc tok pv)(ho:OwnRows base 142 2 w pv (ps.map nX))(hb:base<=w.heap.size)
  (hs:s.size<100000)(hi:i<=s.size)(hl:ps.length<=16)(hz:∀p∈ps,p.1.length<100000) :
  aE 171 #[.pointer (some ⟨b,0,none⟩),.pointer (some ⟨x,0,none⟩)] w (nM base c x i s ps sc tok pv w):=by
 have hm:s.size<=maxLen:=ft;have hbc:=hr.ne h;have hxc:=hx.ne h;have WK:=hx.neR hr;have KS:pv.ownBlock≠some c:=ho.not h ag;have Ci:pv.ownBlock≠some x:=ho.not hx ag;have hob:pv.ownBlock≠some b:=ho.not hr ag;have q0:=hr.cell0;have HN:=O (IW s i);have HV:=O (F' s i);have hw:=F8 hi;have hk:=xA hw;have OZ:=(show kG ps (s.data.toList.drop i)=if !ll (s.data.toList.drop i)then .error 3 else
   match pj (nv (s.data.toList.drop i))with
   |none=>.error 3
   |some q=>if tP ps (gQ (s.data.toList.drop i))then .error 9 else if ps.length=16 then .error 4 else .ok ((gQ (s.data.toList.drop i),q.1),q.2)from rfl)
 have Zt:=O OZ;clear OZ;have DJ:(gQ (s.data.toList.drop i)).length<=s.size:=by
  have:=qN (s.data.toList.drop i);simp at this;omega
 go_enter func171,ntmps171;go_wp2_with fail
 refine(zH c s i w h).mono ?_;rintro e w0⟨rfl,rfl⟩;go_wp2_with fail
 refine(u_ c s i w h hm hi).mono ?_;rintro e w1⟨rfl,oP,dw⟩;replace oP:dm w1 c s (Hh s i):=oP;rw[show s.extract i (cM fO s.data.toList i)=bA (gQ (s.data.toList.drop i))from yA s i];generalize gQ (s.data.toList.drop i)=W at *
 generalize Hh s i=K1 at *
 have Bx:=hr.one h dw;have ov:=hx.fr dw hxc;have zO:=ho.fr dw (fun k hk e=>KS (by rw[hk];exact ar some e));have lA:=O (show Fr (F_ c x pv) w w1 from dw.mono (fun k _ e=>Or.inl e));have q1:=Bx.cell0;have q1a:∀o:Obj,(w1.alloc o).cell? ⟨b,0,none⟩=some (.pointer (some ⟨c,0,none⟩)):=fun o=>(Bx.fr ((ae aX w1).alloc o) id).cell0;clear q0 dw;go_wp2_with fail
 obtain⟨wp,hwp⟩:∃wp,wp=w1.alloc (.cells #[.string (bA W),.string ⟨#[]⟩] 142):=⟨_,rfl⟩;have hpp:wW wp w1.heap.size (bA W) ⟨#[]⟩:=by rw[hwp];exact aC _ _
 have dF:Fr aX w1 wp:=by rw[hwp];exact(ae _ _).alloc _
 have pN:=Bx.fr dF id;have rI:=oP.fr dF id;have WL:=ov.fr dF id;have qD:=zO.fr dF (fun _ _ h=>h);have fR:=O (lA.o.trans dF.mQ);have q2:=pN.cell0;rw[<-hwp];generalize hP:w1.heap.size=P at *
 have WM:P≠c:=by intro e;have:=oP.lt;omega
 have hPx:P≠x:=by intro e;have:=ov.lt;omega
 have hPb:P≠b:=by intro e;have:=Bx.lt;omega
 have hPw:w.heap.size<=P:=by have:=lA.o.size;omega
 have aq9:P<wp.heap.size:=bg hpp;have hoP:pv.ownBlock≠some P:=fun e=>by have:=zO.lt P e;omega
 clear q1 q1a hwp dF;refine(lZ c s K1 wp rI hm hw).mono ?_;rintro e w3⟨rfl,tO,iG⟩;replace tO:dm w3 c s (eK s K1):=tO;generalize eK s K1=K2 at *
 have rf:=pN.one rI iG;have wX:=WL.fr iG hxc;have xx:=qD.fr iG (fun k hk e=>KS (by rw[hk];exact ar some e));have hp3:wW w3 P (bA W) ⟨#[]⟩:=iG.keep hpp WM;have il:=O (fR.o.trans (iG.mono (fun k _ e=>Or.inl e)));have q3:=rf.cell0;have p0:w3.cell? ⟨P,0,none⟩=some (.string (bA W)):=by simp[World.cell?,show w3.heap[P]?=_ from hp3]
 clear q2 iG Bx ov zO pN WL qD hpp oP rI;cases NK:W.isEmpty
 case true =>
  have Ga:(bA W).toList=[]:=by rw[mH];exact gj.1 NK
  have zz:((bA W).toList== [])=true:=dP.2 Ga;rw[NK]at HN;have HE:=O (show kG ps (s.data.toList.drop i)=.error 3 by rw[Zt.o,HN.o];rfl);go_wp2_with fail
  refine(sZ b c K2 3 s v w3 rf tO).mono ?_;rintro e w4⟨⟨g,rfl,hg⟩,kH⟩;go_wp2;go_ret;exact nM.bad HE.o (il.o.trans kH.mQ) ⟨g,rfl,hg⟩
 case false =>
  have Ga:¬(bA W).toList=[]:=by rw[mH];intro e;rw[e]at NK;cases NK
  have zz:((bA W).toList== [])=false:=aL.2 Ga;have HN2:=O (show ll (s.data.toList.drop i)=j5 s K2 61 by rw[HN.o,NK];rfl);clear HN NK;go_wp2_with fail
  refine(pI c s K2 61 w3 tO hm).mono ?_;rintro e w4⟨rfl,tL,kH⟩;have u0:=rf.one tO kH;have WN:=wX.fr kH hxc;have Q9:=xx.fr kH (fun k hk e=>KS (by rw[hk];exact ar some e));have hp4:wW w4 P (bA W) ⟨#[]⟩:=kH.keep hp3 WM;have jN:=O (il.o.trans (kH.mono (fun k _ e=>Or.inl e)));have q4:=u0.cell0;have p0:w4.cell? ⟨P,0,none⟩=some (.string (bA W)):=by simp[World.cell?,show w4.heap[P]?=_ from hp4]
  clear q3 kH rf wX xx hp3 tO;cases Ny:j5 s K2 61
  ·have HE:=O (show kG ps (s.data.toList.drop i)=.error 3 by rw[Zt.o,HN2.o,Ny];rfl);rw[o8 Ny]at tL;go_wp2_with fail
   refine(sZ b c K2 3 s v w4 u0 tL).mono ?_;rintro e w5⟨⟨g,rfl,hg⟩,lB⟩;go_wp2;go_ret;exact nM.bad HE.o (jN.o.trans lB.mQ) ⟨g,rfl,hg⟩
  ·rw[o7 Ny]at tL;rw[HN2.o,Ny]at Zt;have sH:K2+1<=s.size:=by
    have:=(List.getElem?_eq_some_iff.1 ((wa s K2 61).1 Ny)).1;have h2:K2<s.size:=by simpa using this
    omega
   go_wp2_with fail
   refine(lZ c s (K2+1) w4 tL hm sH).mono ?_;rintro e w5⟨rfl,tM,lB⟩;replace tM:dm w5 c s (eK s (K2+1)):=tM;have Gb:=xA sH;generalize eK s (K2+1)=K3 at *
   rw[<-HV.o]at Zt;have AF:=u0.one tL lB;have hx5:=WN.fr lB hxc;have KT:=Q9.fr lB (fun k hk e=>KS (by rw[hk];exact ar some e));have hp5:wW w5 P (bA W) ⟨#[]⟩:=lB.keep hp4 WM;have wR:=O (jN.o.trans (lB.mono (fun k _ e=>Or.inl e)));have q5:=AF.cell0;clear q4 p0 lB u0 WN Q9 hp4 tL;go_wp2_with fail
   refine(u_ c s K3 w5 tM hm Gb).mono ?_;rintro e w6⟨rfl,KU,nt⟩;replace KU:dm w6 c s (Hh s K3):=KU;rw[show s.extract K3 (cM fO s.data.toList K3)=bA (gQ (s.data.toList.drop K3))from yA s K3];have I7:=F8 Gb
   have HVR:=O (show pj (s.data.toList.drop K3)=if(gQ (s.data.toList.drop K3)).isEmpty then zK (s.data.toList.drop K3)else some (gQ (s.data.toList.drop K3),s.data.toList.drop (Hh s K3))by unfold pj;rw[vy]);have WO:=O (show(gQ (s.data.toList.drop K3)).isEmpty=true->Hh s K3=K3 from fun e=>by
    unfold Hh cM;have e2:(List.takeWhile fO (s.data.toList.drop K3))=[]:=gj.1 e;rw[e2];rfl)
   generalize gQ (s.data.toList.drop K3)=V at *
   generalize Hh s K3=K4 at *
   have Hi:=AF.one tM nt;have hx6:=hx5.fr nt hxc;have yD:=KT.fr nt (fun k hk e=>KS (by rw[hk];exact ar some e));have Zu:wW w6 P (bA W) ⟨#[]⟩:=nt.keep hp5 WM;have x_:=O (wR.o.trans (nt.mono (fun k _ e=>Or.inl e)));have p1:w6.cell? ⟨P,1,none⟩=some (.string ⟨#[]⟩):=by simp[World.cell?,show w6.heap[P]?=_ from Zu]
   have f1:w6.frozen? ⟨P,1,none⟩=false:=by simp[World.frozen?,show w6.heap[P]?=_ from Zu]
   clear q5 nt AF hx5 KT hp5 tM
   go_upto_if 52 with fail
   have Lv:∀u:ai,wW (w6.setCell ⟨P,1,none⟩ (.string u)) P (bA W) u:=fun u=>cg Zu 1 (.string u);have Sj:∀u:Value,Fr (one P) w6 (w6.setCell ⟨P,1,none⟩ u):=fun u=>(ae (one P) w6).setCell (p:=⟨P,1,none⟩) (fun _=>rfl) u;have Hj:=O (show∀u:Value,Fr (F_ c x pv) w (w6.setCell ⟨P,1,none⟩ u)from fun u=>x_.o.step (Sj u) (fun k hk e=>by have e':k=P:=e;omega))
   have HS:=O (show∀u:Value,iw (w6.setCell ⟨P,1,none⟩ u) b c s v/\dm (w6.setCell ⟨P,1,none⟩ u) c s K4/\ks (w6.setCell ⟨P,1,none⟩ u) x sc tok pv/\OwnRows base 142 2 (w6.setCell ⟨P,1,none⟩ u) pv (ps.map nX)from fun u =>
    ⟨Hi.fr (Sj u) (fun e=>hPb (show b=P from e).symm),KU.fr (Sj u) (fun e=>WM (show c=P from e).symm),hx6.fr (Sj u) (fun e=>hPx (show x=P from e).symm),yD.fr (Sj u) (fun k hk e=>hoP (by rw[hk];exact ar some e))⟩)
   go_cut [] (fun wx=>abc base b c x P i s v ps sc tok pv W w wx)
   case first =>
    obtain⟨Q',WQ,hx7,WR⟩:=HS.o (.string (bA V));have WS:=Lv (bA V);cases Zv:V.isEmpty
    case false =>
     have Hd:¬(bA V).toList=[]:=by rw[mH];intro e;rw[e]at Zv;cases Zv
     have hv2:((bA V).toList== [])=false:=aL.2 Hd;have BS:(bA V).toList.isEmpty=false:=by rw[mH];exact Zv
     have Sk:=O (show pj (s.data.toList.drop K3)=some (V,s.data.toList.drop K4)by rw[HVR.o,Zv];rfl);rw[BS];go_wp2_with fail
     go_meet
     refine⟨V,K4,I7,WQ,WS,Q',hx7,WR,Hj.o _,?_⟩;rw[Zt.o,Sk.o];rfl
    case true =>
     have BS:(bA V).toList.isEmpty=true:=by rw[mH];exact Zv
     have hK4:=WO.o Zv;subst hK4;have q7:=Q'.cell0;have p71:(w6.setCell ⟨P,1,none⟩ (.string (bA V))).cell? ⟨P,1,none⟩=some (.string (bA V)):=by simp[World.cell?,show(w6.setCell ⟨P,1,none⟩ (.string (bA V))).heap[P]?=_ from WS]
     rw[BS];go_wp2_with fail
     refine(Lc c s K4 _ WQ ab).mono ?_;intro e w8 hq;have HQA:=O (OX s.data.toList K4);cases hqr:zK (s.data.toList.drop K4)with
     |none =>
      have hqa:gD s.data.toList K4=none:=by rw[HQA.o,hqr];rfl
      obtain⟨rfl,Zw,rY⟩:=hq.isNone hqa;have Sk:=O (show pj (s.data.toList.drop K4)=none by rw[HVR.o,Zv];exact hqr);have Sl:=Q'.one WQ rY;have hp8:wW w8 P (bA W) (bA V):=rY.keep WS WM;have O0:=O ((Hj.o (.string (bA V))).trans (rY.mono (fun k _ e=>Or.inl e)));have Cj:Fr (one P) w8 (w8.setCell ⟨P,1,none⟩ (.string ⟨#[]⟩)):=(ae (one P) w8).setCell (p:=⟨P,1,none⟩) (fun _=>rfl) _
      have Zx:=Sl.fr Cj (fun e=>hPb (show b=P from e).symm);have Zy:=Zw.fr Cj (fun e=>WM (show c=P from e).symm);have VO:=O (show Fr (F_ c x pv) w (w8.setCell ⟨P,1,none⟩ (.string ⟨#[]⟩))from O0.o.step Cj (fun k hk e=>by have e':k=P:=e;omega));have q8:=Sl.cell0;have q9:=Zx.cell0;have p8:w8.cell? ⟨P,1,none⟩=some (.string (bA V)):=by simp[World.cell?,show w8.heap[P]?=_ from hp8]
      have f8:w8.frozen? ⟨P,1,none⟩=false:=by simp[World.frozen?,show w8.heap[P]?=_ from hp8]
      clear q7 p71 hq rY Cj;go_wp2_with fail
      refine(sZ b c K4 3 s v _ Zx Zy).mono ?_;rintro e w10⟨⟨g,rfl,hg⟩,Lw⟩;go_wp2;go_ret;exact nM.bad (by rw[Zt.o,Sk.o];rfl) (VO.o.trans Lw.mQ) ⟨g,rfl,hg⟩
     |some q =>
      obtain⟨a,z⟩:=q;have hqa:gD s.data.toList K4=some (a,s.data.toList.length-z.length):=by rw[HQA.o,hqr];rfl
      obtain⟨rfl,Zw,rY⟩:=hq.isOk hqa;have Sk:=O (show pj (s.data.toList.drop K4)=some (a,z)by rw[HVR.o,Zv];exact hqr);have Zz:=O (I2 hqr);have Sl:=Q'.one WQ rY;have hx8:=hx7.fr rY hxc;have Ra:=WR.fr rY (fun k hk e=>KS (by rw[hk];exact ar some e));have hp8:wW w8 P (bA W) (bA V):=rY.keep WS WM;have O0:=O ((Hj.o (.string (bA V))).trans (rY.mono (fun k _ e=>Or.inl e)))
      have Cj:Fr (one P) w8 (w8.setCell ⟨P,1,none⟩ (.string (bA a))):=(ae (one P) w8).setCell (p:=⟨P,1,none⟩) (fun _=>rfl) _;have Zx:=Sl.fr Cj (fun e=>hPb (show b=P from e).symm);have Zy:=Zw.fr Cj (fun e=>WM (show c=P from e).symm);have hx9:=hx8.fr Cj (fun e=>hPx (show x=P from e).symm);have WT:=Ra.fr Cj (fun k hk e=>hoP (by rw[hk];exact ar some e))
      have hp9:wW (w8.setCell ⟨P,1,none⟩ (.string (bA a))) P (bA W) (bA a):=cg hp8 1 (.string (bA a));have VO:=O (show Fr (F_ c x pv) w (w8.setCell ⟨P,1,none⟩ (.string (bA a)))from O0.o.step Cj (fun k hk e=>by have e':k=P:=e;omega));have p8:w8.cell? ⟨P,1,none⟩=some (.string (bA V)):=by simp[World.cell?,show w8.heap[P]?=_ from hp8]
      have f8:w8.frozen? ⟨P,1,none⟩=false:=by simp[World.frozen?,show w8.heap[P]?=_ from hp8]
      clear q7 p71 hq rY Cj;go_wp2_with fail
      go_meet
      refine⟨a,_,?_,Zy,hp9,Zx,hx9,WT,VO.o,?_⟩
      ·simp
      ·rw[Zt.o,Sk.o,show s.data.toList.drop (s.data.toList.length-z.length)=z from Zz.o];rfl
   case rest =>
   obtain⟨val,j,hj,WQ,WS,Q',hx7,WR,nY,ya⟩:=hcut;have Hk:=O ya;have WU:=O nY;clear Zt ya nY HVR WO Lv Sj Hj HS Hi hx6 yD Zu KU p1 f1;have Sm:w.heap.size<=wc.heap.size:=WU.o.size;have im:base<=wc.heap.size:=aH hb Sm;have Q7:=WR.form;obtain⟨av,cv,aeZ⟩:=Q7;rw[aj]at aeZ;subst aeZ;have lJ:=WR.at;have x2:=hx7.lQ;have xf2:=hx7.free 2
   have p0:wc.cell? ⟨P,0,none⟩=some (.string (bA W)):=by simp[World.cell?,show wc.heap[P]?=_ from WS]
   have p1:wc.cell? ⟨P,1,none⟩=some (.string (bA val)):=by simp[World.cell?,show wc.heap[P]?=_ from WS]
   have HPA:=O (show∀U,Fr aX wc U->U.cell? ⟨P,0,none⟩=some (.string (bA W))/\U.cell? ⟨P,1,none⟩=some (.string (bA val))/\U.cell? ⟨x,2,none⟩=some (.slice av ps.length cv)/\U.frozen? ⟨x,2,none⟩=false from fun U hU=>by
    have j1:=hU.keep WS id;have j2:=hx7.fr hU id;exact⟨by simp[World.cell?,j1],by simp[World.cell?,j1],j2.lQ,j2.free 2⟩)
   go_wp2_with fail
   go_loopw[71] (aeV ps W wc) (fun t _=>ps.length-(intOf t).toNat)
   case atStart=>exact⟨0,aW _,rfl,rfl,ae _ _⟩
   case round =>
    obtain⟨k,Zr,rfl,hn,cR⟩:=hrel;have HN:=O hn;clear hn p0 p1 x2 xf2;obtain⟨p0,p1,x2,xf2⟩:=HPA.o wr cR;by_cases fE:k<ps.length
    ·have qm:(k:Int)<(ps.length:Int):=ab;have dT:=O (List.getElem?_eq_getElem fE);have VP:=hz _ (bQ fE);generalize ps[k]=q at dT VP;obtain⟨nm,vl⟩:=q;rcases(bM lJ cR).2 with ⟨_,_,_,e,_⟩|⟨bk,of,c',dw,h1,h2,h3,h4⟩
     ·have:ps.length=0:=by have:=ar List.length e;simpa using this
      omega
     rw[aj]at dw h1;cases dw;unfold maxLen at h2;have hcell:=h4 k (nX (nm,vl)) (by rw[List.getElem?_map,dT.o];rfl);have c0:wr.cell? ⟨bk,of+k*2,none⟩=some (.string (bA nm)):=hcell 0 _ rfl;have c1:wr.cell? ⟨bk,of+k*2+1,none⟩=some (.string (bA vl)):=hcell 1 _ rfl;clear hcell h4;obtain⟨wb,jP⟩:∃wb,wb=wr.alloc (.cells #[.string (bA nm),.string (bA vl)] 142):=⟨_,rfl⟩
     have kf:Fr aX wr wb:=by rw[jP];exact(ae aX wr).alloc _
     have p0a:∀o:Obj,(wr.alloc o).cell? ⟨P,0,none⟩=some (.string (bA W)):=fun o=>(HPA.o _ (cR.alloc o)).1;have qB:=O jP;have lV:=O (cR.trans kf);clear jP kf;go_wp2_with fail
     rw[<-qB.o];refine(lY (bA nm) (bA W) wb (by rw[NI];have arc:nm.length<100000:=VP;omega) (by rw[NI];omega)).mono ?_;rintro e w8⟨rfl,rY⟩;rw[fM,fM];have O0:=O (lV.o.trans rY);cases oO:dH nm W
     ·have p9:=O (show(ps.take (k+1)).any (fun q=>dH q.1 W)=false from vz dT.o HN.o oO);go_wp2;go_roundw
      case rel=>exact⟨k+1,ab,bh,p9.o,O0.o⟩
      case measure=>simp[intOf];omega
     ·have HE:=O (show kG ps (s.data.toList.drop i)=.error 9 by rw[Hk.o,aB (Sg dT.o oO)]);go_wp2;go_ret;exact nM.bad HE.o ((WU.o.trans O0.o.mQ).alloc _) (wV.new 9 i w8)
    ·have qm:¬(k:Int)<(ps.length:Int):=ab;have HT:=O (show tP ps W=false by have h:=HN.o;rw[aG ab]at h;exact h);rw[HT.o]at Hk;by_cases h16:ps.length=16
     ·have ae0:((ps.length:Int)==16)=true:=by rw[h16];rfl
      have HE:=O (show kG ps (s.data.toList.drop i)=.error 4 by rw[Hk.o,aB h16];rfl);clear h16;go_wp2;go_ret;exact nM.bad HE.o ((WU.o.trans cR.mQ).alloc _) (wV.new 4 i wr)
     ·have ae0:((ps.length:Int)==16)=false:=aL.2 ab;have HE:=O (show kG ps (s.data.toList.drop i)=.ok ((W,val),s.data.toList.drop j)by rw[Hk.o,ay h16];rfl);have Sn:=WU.o.trans (cR.mQ (S:=F_ c x (.slice av ps.length cv)));have hcr:=WQ.fr cR id;have hxr:=hx7.fr cR id;have hor:=WR.fr cR (fun _ _ h=>h);have hbr:base<=wr.heap.size:=aH im cR.size
      have cQ:wr.ownsRow base 142 2 (.slice av ps.length cv) ps.length (ps.map nX).flatten:=by
       have hh:=hor.2;rw[aj]at hh;exact hh
      have hPl:P<wr.heap.size:=cN (bg WS) cR.size;have nZ:x<wr.heap.size:=hxr.lt;have wU:c<wr.heap.size:=hcr.lt;obtain⟨i0,rL,pA,kP,kR⟩:=info_parts IY;have wH:=O (show∀u∈nX (W,val),u.oneCell'=true from NJ _);have hps:ps.length<16:=ab;clear ae0 lJ hz HN;go_wp2_with fail
      go_region_law ((with_reducible refine mF ⟨some 102,_,_,_,_,_⟩ ?_)
                     refine step_append_lies _ bB _ _ _ bB base 142 i0 _ 2 32 underlying27 rL pA kP kR rfl ab (.slice av ps.length cv) ps.length _ bB (by repeat(first|exact cQ|apply World.ownsRow.alloc|apply World.ownsRow.drew)) ⟨wr.heap.size,0,none⟩ 1 1 (nX (W,val)) bB bB (ky wr (nX (W,val)) _) wH.o ab ft ab bH (wr.heap.size+1) aS ?_
                     intro gg cap w5 vA jq Sp abh
                     have qG:Fr (fun k=>(Value.slice av ps.length cv).ownBlock=some k) wr w5:=fg (by repeat(first|exact ae _ _|apply aA|apply bq)) jq (fun _ hk _=>hk)
                     have k4:w5.cell? ⟨x,2,none⟩=some (.slice av ps.length cv):=(qG.cell (p:=⟨x,2,none⟩) nZ Ci).trans x2
                     have e4:w5.frozen? ⟨x,2,none⟩=false:=(qG.frozen (p:=⟨x,2,none⟩) nZ Ci).trans xf2)
      all_goals
       have hx5:ks w5 x sc tok (.slice av ps.length cv):=hxr.fr qG Ci;have tM:dm w5 c s j:=hcr.fr qG KS;have Ij:Fr (one x) w5 (w5.setCell ⟨x,2,none⟩ (.slice (some ⟨gg,0,none⟩) (ps.length+1) cap)):=(ae (one x) w5).setCell (p:=⟨x,2,none⟩) (fun _=>rfl) _;have hx6:ks (w5.setCell ⟨x,2,none⟩ (.slice (some ⟨gg,0,none⟩) (ps.length+1) cap)) x sc tok (.slice (some ⟨gg,0,none⟩) (ps.length+1) cap):=cg hx5 2 _
       have KU:=tM.fr Ij (fun e=>hxc (show c=x from e).symm);have hgx:gg≠x:=by
        rintro rfl;rcases Sp with e|e
        ·exact Ci e
        ·omega
       have KT:OwnRows base 142 2 w5 (.slice (some ⟨gg,0,none⟩) (ps.length+1) cap) ((ps++[(W,val)]).map nX):=by
        refine⟨Si _,?_⟩;have e1:((ps++[(W,val)]).map nX).length=ps.length+1:=aS;have e2:((ps++[(W,val)]).map nX).flatten=(ps.map nX).flatten++nX (W,val):=aS;rw[e1,e2];exact vA
       have yD:=KT.fr Ij (fun k hk e=>hgx (by
        simp only[Value.ownBlock,dW]at hk;rw[hk];exact e))
       have O2:=O (show Fr (F_ c x (.slice av ps.length cv)) w (w5.setCell ⟨x,2,none⟩ (.slice (some ⟨gg,0,none⟩) (ps.length+1) cap))from
        (Sn.trans (qG.mono (fun k _ e=>Or.inr (Or.inr e)))).trans (Ij.mono (fun k _ e=>Or.inr (Or.inl e))))
       clear k4 e4 jq vA cQ qG;go_wp2;go_ret;refine⟨O2.o,?_⟩;rw[HE.o];exact⟨rfl,j,_,hj,KU,rfl,hx6,yD⟩
theorem LQ(o:gz)(path query:ai)(w:World)(h1:path.size<100000)(h2:query.size<100000) :
  aE 74 #[.agg #[.bool o.aD,.string o.host,.int .i64 o.port,.string path,.string query]] w fun e w'=>e=.returned (.string (nw path query))/\Fr aX w w':=by
 by_cases h0:query.size=0
 ·have HT:=O (show nw path query=path by unfold nw;rw[aB h0]);have t1:query.toList=[]:=by rw[aN];exact gN.2 h0
  have t2:query.toList.isEmpty=true:=by rw[t1];rfl
  go_enter func74,ntmps74;go_wp2;go_ret;exact⟨by rw[HT.o];rfl,(ae aX w).alloc _⟩
 ·have HT:=O (show nw path query=(path++⟨#[63]⟩)++query by unfold nw;rw[ay h0]);have t1:¬query.toList=[]:=by rw[aN];exact fun h=>h0 (gN.1 h)
  have t2:query.toList.isEmpty=false:=by simpa using t1
  go_enter func74,ntmps74;go_wp2;go_ret;exact⟨by rw[HT.o];rfl,(ae aX w).alloc _⟩
