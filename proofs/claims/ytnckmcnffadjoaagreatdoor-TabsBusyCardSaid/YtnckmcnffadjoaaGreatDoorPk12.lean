/- Lemmas for the law's walk. -/
import Derived.Test.YtnckmcnffadjoaaGreatDoorPk11
set_option maxRecDepth 100000
set_option maxHeartbeats 16000000
set_option linter.unusedSimpArgs false
namespace Go.Proofs.YtnckmcnffadjoaaGreatDoor
open Go.Proofs.Tryz
open Go.RowKit
variable {w:World} {v:Value} {b k base:Nat}
structure nU where
 NH:Bool
 cy:Bool
 aK:aj
 bq:aj
 eE:aj
 user:aj
 pass:aj
 method:aj
 target:aj
 body:aj
 bP:aj
 n:Nat
def jf:aj:=⟨#[97,117,116,104,45,105,110,116]⟩
def FC(x:nU):aj:=if x.cy then kE x.NH [kE x.NH [x.user,x.aK,x.pass],x.bq,x.bP]else kE x.NH [x.user,x.aK,x.pass]
def xF(x:nU):aj:=if x.eE=jf then kE x.NH [x.method,x.target,kE x.NH [x.body]]else kE x.NH [x.method,x.target]
def oo(x:nU):aj:=if x.eE=.empty then kE x.NH [FC x,x.bq,xF x]else kE x.NH [FC x,x.bq,⟨(jD x.n).toArray⟩,x.bP,x.eE,xF x]
theorem at_len(k:Nat){P:Program}{f:FuncId}{x:Value}{a:Option Addr}{c:Nat}{W:World}{Uy:Ending->World->Prop}(h:Calls P f #[x,.slice a k c] W Uy):Calls P f #[x,.slice a k c] W Uy:=h
theorem ab2:¬jf=.empty:=dp
theorem sY{ss:List aj}(h:fN w v ss):fN w.drew v ss:=h
theorem ab3(a:aj):(kP [a]).length=a.size:=by simp[kP,Lib.join,List.intercalate]
theorem ab4(a b:aj):(kP [a,b]).length=a.size+b.size+1:=by simp[kP,Lib.join,List.intercalate];omega
theorem GB(a b c:aj):(kP [a,b,c]).length=a.size+b.size+c.size+2:=by simp[kP,Lib.join,List.intercalate];omega
theorem Qe(a b c d e f:aj):(kP [a,b,c,d,e,f]).length=a.size+b.size+c.size+d.size+e.size+f.size+5:=by simp[kP,Lib.join,List.intercalate];omega
theorem uM(n:Nat):(⟨(jD n).toArray⟩:aj).size=8:=by show(jD n).toArray.size=8;simp[jD,nS]
structure nU.Small (x:nU):Prop where
 aK:x.aK.size<=5000
 bq:x.bq.size<=5000
 eE:x.eE.size<=5000
 user:x.user.size<=5000
 pass:x.pass.size<=5000
 method:x.method.size<=5000
 target:x.target.size<=5000
 body:x.body.size<=5000
 bP:x.bP.size<=5000
 n:x.n<4294967296
theorem zL(r:fK Value)(x:nU)(w:World)(hx:x.Small)(h1:r.aK=x.aK)(h2:r.bq=x.bq)(h3:r.eE=x.eE)(h4:r.cy=x.cy)(h5:x.NH=decide (r.scheme=3))
  (dY:r.dom.oneCell'=true)(NI:om w 9 .u8 Rl)(hh:tM r.scheme w) :
  Calls prog 102 #[.agg #[.int .i64 r.scheme,.string r.aK,.string r.bq,.string r.cj,.bool r.cy,.string r.eE,.bool r.cM,r.dom],.agg #[.string x.user,.string x.pass],.string x.method,.string x.target,.string x.body,.string x.bP,.int .i64 x.n] w
   fun e w'=>e=.returned (.string (oo x))/\Fr aR w w':=by
 obtain⟨NH,cy,aK,bq,eE,user,pass,method,target,body,bP,n⟩:=x;obtain⟨fP,iJ,eN,cj,Qf,nk,cM,dom⟩:=r;obtain⟨z1,z2,z3,z4,z5,z6,z7,z8,z9,zn⟩:=hx;simp only at h1 h2 h3 h4 h5 dY z1 z2 z3 z4 z5 z6 z7 z8 z9 zn hh ⊢;subst h1 h2 h3 h4 h5;have HDB:=O NI;have HH:=O hh;have HD1:=O dY;clear NI hh;go_enter func102,ntmps102;go_wp2_with fail
 obtain⟨wb,j_⟩:∃wb,wb=(w.alloc (.cells #[.int .i64 fP,.string iJ,.string eN,.string cj,.bool Qf,.string nk,.bool cM,dom] 112)).alloc (.cells #[.string user,.string pass] 39):=⟨_,rfl⟩;have xM:wb.heap.size=w.heap.size+1+1:=by rw[j_];simp
 have ks:Fr aR w wb:=by rw[j_];exact((ae aR w).alloc _).alloc _
 have hk:wb.heap[w.heap.size]?=some (.cells #[.int .i64 fP,.string iJ,.string eN,.string cj,.bool Qf,.string nk,.bool cM,dom] 112 (0,0)):=by rw[j_];exact((ae aR _).alloc _).keep (aB _ _) (fun h=>h)
 have HC:=O (show∀U,Fr aR wb U->U.cell? ⟨w.heap.size,0,none⟩=some (.int .i64 fP)/\U.cell? ⟨w.heap.size,2,none⟩=some (.string eN)/\U.cell? ⟨w.heap.size,4,none⟩=some (.bool Qf)/\U.cell? ⟨w.heap.size,5,none⟩=some (.string nk)from fun U hU=>by
  have su:=hU.keep hk (fun h=>h);simp[World.cell?,su])
 have hv:=fZ wb 9 [user,iJ,pass] (aY rfl);rw[xM]at hv;rw[<-j_];clear j_ hk;refine(HH.o _ [user,iJ,pass] _ (ks.alloc _) hv (aY rfl) (by rw[GB];omega)).mono ?_;rintro e u1⟨rfl,df⟩;have k_:=O (show Fr aR wb u1 from((ae aR wb).alloc _).trans df);have IG:=O (ks.trans k_.o);obtain⟨c0,c2,c4,c5⟩:=HC.o u1 k_.o;obtain⟨o0,ho0⟩:∃o0,o0=kE (decide (fP=3)) [user,iJ,pass]:=⟨_,rfl⟩
 have hoz:o0.size<=64:=by rw[ho0];exact lN _ _
 rw[<-ho0];have HO0:=O ho0;clear ho0;clear hv df xM;cases Qf
 ·obtain⟨o1,Bb⟩:∃o1,o1=o0:=⟨_,rfl⟩;rw[<-Bb]at hoz ⊢;have HO:=O (show FC ⟨decide (fP=3),false,iJ,eN,nk,user,pass,method,target,body,bP,n⟩=o1 by rw[Bb,HO0.o];rfl);clear Bb;go_wp2_with fail
  refine(HH.o _ [method,target] _ (by repeat(first|exact IG.o|refine bE ?_ nI|apply bz|apply aA)) (fZ _ _ [method,target] (aY rfl)) (aY rfl) (by rw[ab4];omega)).mono ?_;rintro e u5⟨rfl,lG⟩;have tU:=O (show Fr aR wb u5 from bE (by repeat(first|exact k_.o|apply bz|apply aA)) lG);have GC:=O (ks.trans tU.o);obtain⟨d0,d2,d4,d5⟩:=HC.o u5 tU.o;clear c0 c2 c4 c5 lG
  obtain⟨t0,ZC⟩:∃t0,t0=kE (decide (fP=3)) [method,target]:=⟨_,rfl⟩;have X8:t0.size<=64:=by rw[ZC];exact lN _ _
  rw[<-ZC];have HT0:=O ZC;clear ZC;by_cases hqi:nk=jf
  ·subst hqi;have hai:jf.toList=[97,117,116,104,45,105,110,116]:=dp;have HRI:=O (show oo ⟨decide (fP=3),false,iJ,eN,jf,user,pass,method,target,body,bP,n⟩=kE (decide (fP=3)) [FC ⟨decide (fP=3),false,iJ,eN,jf,user,pass,method,target,body,bP,n⟩,eN,⟨(jD n).toArray⟩,bP,jf,xF ⟨decide (fP=3),false,iJ,eN,jf,user,pass,method,target,body,bP,n⟩]from by unfold oo;rw[aq ab2])
   have HTI:=O (show xF ⟨decide (fP=3),false,iJ,eN,jf,user,pass,method,target,body,bP,n⟩=kE (decide (fP=3)) [method,target,kE (decide (fP=3)) [body]]from by unfold xF;rw[az rfl]);have hbz:=lN (decide (fP=3)) [body];obtain⟨bb,xW⟩:∃bb,bb=kE (decide (fP=3)) [body]:=⟨_,rfl⟩;have HBB:=O xW;rw[<-xW]at hbz HTI;clear xW;go_wp2_with fail
   go_region_held3 (fun U=>U.cell? ⟨w.heap.size,0,none⟩=some (.int .i64 fP)) ((refine(HC.o _ ?_).1;repeat(first|exact tU.o|refine bE ?_ rK|refine bE ?_ nI|apply bz|apply aA))) (first|((with_reducible refine at_len 1 ?_);go_at_call 159;refine(HH.o _ [body] _ (by repeat(first|exact GC.o|apply bz|apply aA)) (by first|exact fZ _ _ [body] (aY rfl)|exact sY (fZ _ _ [body] (aY rfl))) (aY rfl) (by rw[ab3];omega)).mono ?_;rw[<-HBB.o];rintro e w7 ⟨rfl,nI⟩)|((with_reducible refine at_len 3 ?_);go_at_call 159;refine(HH.o _ [method,target,bb] _ (by repeat(first|exact GC.o|refine bE ?_ nI|apply bz|apply aA)) (by first|exact fZ _ _ [method,target,bb] (aY rfl)|exact sY (fZ _ _ [method,target,bb] (aY rfl))) (aY rfl) (by rw[GB];omega)).mono ?_;rintro e w8 ⟨rfl,rK⟩))
   all_goals
    have yX:=O (show Fr aR wb w8 from by repeat(first|exact tU.o|refine bE ?_ rK|refine bE ?_ nI|apply bz|apply aA));have Ro:=O (ks.trans yX.o);clear nI rK d0 d2 d4 d5;obtain⟨d0,d2,d4,d5⟩:=HC.o w8 yX.o;obtain⟨t2,Lb⟩:∃t2,t2=kE (decide (fP=3)) [method,target,bb]:=⟨_,rfl⟩;have anE:t2.size<=64:=by rw[Lb];exact lN _ _
    rw[<-Lb];have HT:=O (HTI.o.trans Lb.symm);have HR:=O HRI.o;clear Lb;have anF:¬jf.toList=[]:=by rw[hai];simp
    have Yd:=O (fun(U:World) (hU:Fr aR wb U)=>And.intro (HC.o U hU).1 (And.intro (HC.o U hU).2.1 (HC.o U hU).2.2.2));clear X8;go_wp2_with fail
    go_region_held3 (fun U=>U.cell? ⟨w.heap.size,0,none⟩=some (.int .i64 fP)/\U.cell? ⟨w.heap.size,2,none⟩=some (.string eN)/\U.cell? ⟨w.heap.size,5,none⟩=some (.string jf)) ((refine Yd.o _ ?_;repeat(first|exact yX.o|refine bE ?_ rK|refine bE ?_ nI|apply bz|apply aA))) (first|(go_at_call 104;refine(rz n _ zn (HDB.o.fr (by repeat(first|exact Ro.o|refine bE ?_ nI|apply bz|apply aA)))).mono ?_;rintro e w7 ⟨rfl,nI⟩)|(go_at_call 159;refine(HH.o _ [o1,eN,⟨(jD n).toArray⟩,bP,jf,t2] _ (by repeat(first|exact Ro.o|refine bE ?_ nI|apply bz|apply aA)) (fZ _ _ _ (aY rfl)) (aY rfl) (by rw[Qe];have:=uM n;omega)).mono ?_;rintro e w8 ⟨rfl,rK⟩))
    all_goals
     have DQ:=O (show Fr aR w w8 from bE (by repeat(first|exact Ro.o|refine bE ?_ nI|apply bz|apply aA)) rK);clear rK;go_wp2;go_ret;exact⟨by rw[HR.o,HO.o,HT.o];rfl,DQ.o⟩
  ·have hq1:¬nk.toList=[97,117,116,104,45,105,110,116]:=fun h=>hqi (by rw[aO]at h;exact Go.WideShapes.bytes_inj h);have hq2:(nk.toList== [97,117,116,104,45,105,110,116])=false:=by simp[hq1]
   obtain⟨t2,Lb⟩:∃t2,t2=t0:=⟨_,rfl⟩;rw[<-Lb]at X8 ⊢;have HT:=O (show xF ⟨decide (fP=3),false,iJ,eN,nk,user,pass,method,target,body,bP,n⟩=t2 by rw[Lb,HT0.o];unfold xF;rw[aq hqi]);clear Lb;by_cases Rp:nk=.empty
   ·subst Rp;have anG:ByteArray.empty.toList=[]:=dp;have HR:=O (show oo ⟨decide (fP=3),false,iJ,eN,.empty,user,pass,method,target,body,bP,n⟩=kE (decide (fP=3)) [FC ⟨decide (fP=3),false,iJ,eN,.empty,user,pass,method,target,body,bP,n⟩,eN,xF ⟨decide (fP=3),false,iJ,eN,.empty,user,pass,method,target,body,bP,n⟩]from by unfold oo;rw[az rfl]);go_wp2_with fail
    refine(HH.o _ [o1,eN,t2] _ (by repeat(first|exact GC.o|refine bE ?_ nI|apply bz|apply aA)) (fZ _ _ [o1,eN,t2] (aY rfl)) (aY rfl) (by rw[GB];omega)).mono ?_;rintro e u9⟨rfl,ZD⟩;go_wp2;go_ret;exact⟨by rw[HR.o,HO.o,HT.o];rfl,bE (by repeat(first|exact GC.o|refine bE ?_ nI|apply bz|apply aA)) ZD⟩
   ·have ZE:¬nk.toList=[]:=fun h=>Rp (by rw[aO]at h;exact Go.WideShapes.bytes_inj h);have hq4:nk.toList.isEmpty=false:=by cases hz:nk.toList with|nil=>exact absurd hz ZE|cons _ _=>rfl
    have HR:=O (show oo ⟨decide (fP=3),false,iJ,eN,nk,user,pass,method,target,body,bP,n⟩=kE (decide (fP=3)) [FC ⟨decide (fP=3),false,iJ,eN,nk,user,pass,method,target,body,bP,n⟩,eN,⟨(jD n).toArray⟩,bP,nk,xF ⟨decide (fP=3),false,iJ,eN,nk,user,pass,method,target,body,bP,n⟩]from by unfold oo;rw[aq Rp])
    have Yd:=O (fun(U:World) (hU:Fr aR wb U)=>And.intro (HC.o U hU).1 (And.intro (HC.o U hU).2.1 (HC.o U hU).2.2.2));go_wp2_with fail
    go_region_held3 (fun U=>U.cell? ⟨w.heap.size,0,none⟩=some (.int .i64 fP)/\U.cell? ⟨w.heap.size,2,none⟩=some (.string eN)/\U.cell? ⟨w.heap.size,5,none⟩=some (.string nk)) ((refine Yd.o _ ?_;repeat(first|exact tU.o|refine bE ?_ rK|refine bE ?_ nI|apply bz|apply aA))) (first|(go_at_call 104;refine(rz n _ zn (HDB.o.fr (by repeat(first|exact GC.o|refine bE ?_ nI|apply bz|apply aA)))).mono ?_;rintro e w7 ⟨rfl,nI⟩)|(go_at_call 159;refine(HH.o _ [o1,eN,⟨(jD n).toArray⟩,bP,nk,t2] _ (by repeat(first|exact GC.o|refine bE ?_ nI|apply bz|apply aA)) (fZ _ _ _ (aY rfl)) (aY rfl) (by rw[Qe];have:=uM n;omega)).mono ?_;rintro e w8 ⟨rfl,rK⟩))
    all_goals
     have DQ:=O (show Fr aR w w8 from bE (by repeat(first|exact GC.o|refine bE ?_ nI|apply bz|apply aA)) rK);clear rK;go_wp2;go_ret;exact⟨by rw[HR.o,HO.o,HT.o];rfl,DQ.o⟩
 ·go_wp2_with fail
  refine(HH.o _ [o0,eN,bP] _ (by repeat(first|exact IG.o|apply bz|apply aA)) (fZ _ _ [o0,eN,bP] (aY rfl)) (aY rfl) (by rw[GB];omega)).mono ?_;rintro e u2⟨rfl,dy⟩;have fO:=O (show Fr aR wb u2 from bE (by repeat(first|exact k_.o|apply bz|apply aA)) dy);have nJ:=O (ks.trans fO.o);clear c0 c2 c4 c5 dy;obtain⟨c0,c2,c4,c5⟩:=HC.o u2 fO.o;obtain⟨o1,Bb⟩:∃o1,o1=kE (decide (fP=3)) [o0,eN,bP]:=⟨_,rfl⟩
  have auV:o1.size<=64:=by rw[Bb];exact lN _ _
  rw[<-Bb];have HO:=O (show FC ⟨decide (fP=3),true,iJ,eN,nk,user,pass,method,target,body,bP,n⟩=o1 by rw[Bb,HO0.o];rfl);clear Bb;go_wp2_with fail
  refine(HH.o _ [method,target] _ (by repeat(first|exact nJ.o|refine bE ?_ nI|apply bz|apply aA)) (fZ _ _ [method,target] (aY rfl)) (aY rfl) (by rw[ab4];omega)).mono ?_;rintro e u5⟨rfl,lG⟩;have tU:=O (show Fr aR wb u5 from bE (by repeat(first|exact fO.o|apply bz|apply aA)) lG);have GC:=O (ks.trans tU.o);obtain⟨d0,d2,d4,d5⟩:=HC.o u5 tU.o;clear c0 c2 c4 c5 lG
  obtain⟨t0,ZC⟩:∃t0,t0=kE (decide (fP=3)) [method,target]:=⟨_,rfl⟩;have X8:t0.size<=64:=by rw[ZC];exact lN _ _
  rw[<-ZC];have HT0:=O ZC;clear ZC;by_cases hqi:nk=jf
  ·subst hqi;have hai:jf.toList=[97,117,116,104,45,105,110,116]:=dp;have HRI:=O (show oo ⟨decide (fP=3),true,iJ,eN,jf,user,pass,method,target,body,bP,n⟩=kE (decide (fP=3)) [FC ⟨decide (fP=3),true,iJ,eN,jf,user,pass,method,target,body,bP,n⟩,eN,⟨(jD n).toArray⟩,bP,jf,xF ⟨decide (fP=3),true,iJ,eN,jf,user,pass,method,target,body,bP,n⟩]from by unfold oo;rw[aq ab2])
   have HTI:=O (show xF ⟨decide (fP=3),true,iJ,eN,jf,user,pass,method,target,body,bP,n⟩=kE (decide (fP=3)) [method,target,kE (decide (fP=3)) [body]]from by unfold xF;rw[az rfl]);have hbz:=lN (decide (fP=3)) [body];obtain⟨bb,xW⟩:∃bb,bb=kE (decide (fP=3)) [body]:=⟨_,rfl⟩;have HBB:=O xW;rw[<-xW]at hbz HTI;clear xW;go_wp2_with fail
   go_region_held3 (fun U=>U.cell? ⟨w.heap.size,0,none⟩=some (.int .i64 fP)) ((refine(HC.o _ ?_).1;repeat(first|exact tU.o|refine bE ?_ rK|refine bE ?_ nI|apply bz|apply aA))) (first|((with_reducible refine at_len 1 ?_);go_at_call 159;refine(HH.o _ [body] _ (by repeat(first|exact GC.o|apply bz|apply aA)) (by first|exact fZ _ _ [body] (aY rfl)|exact sY (fZ _ _ [body] (aY rfl))) (aY rfl) (by rw[ab3];omega)).mono ?_;rw[<-HBB.o];rintro e w7 ⟨rfl,nI⟩)|((with_reducible refine at_len 3 ?_);go_at_call 159;refine(HH.o _ [method,target,bb] _ (by repeat(first|exact GC.o|refine bE ?_ nI|apply bz|apply aA)) (by first|exact fZ _ _ [method,target,bb] (aY rfl)|exact sY (fZ _ _ [method,target,bb] (aY rfl))) (aY rfl) (by rw[GB];omega)).mono ?_;rintro e w8 ⟨rfl,rK⟩))
   all_goals
    have yX:=O (show Fr aR wb w8 from by repeat(first|exact tU.o|refine bE ?_ rK|refine bE ?_ nI|apply bz|apply aA));have Ro:=O (ks.trans yX.o);clear nI rK d0 d2 d4 d5;obtain⟨d0,d2,d4,d5⟩:=HC.o w8 yX.o;obtain⟨t2,Lb⟩:∃t2,t2=kE (decide (fP=3)) [method,target,bb]:=⟨_,rfl⟩;have anE:t2.size<=64:=by rw[Lb];exact lN _ _
    rw[<-Lb];have HT:=O (HTI.o.trans Lb.symm);have HR:=O HRI.o;clear Lb;have anF:¬jf.toList=[]:=by rw[hai];simp
    have Yd:=O (fun(U:World) (hU:Fr aR wb U)=>And.intro (HC.o U hU).1 (And.intro (HC.o U hU).2.1 (HC.o U hU).2.2.2));clear X8;go_wp2_with fail
    go_region_held3 (fun U=>U.cell? ⟨w.heap.size,0,none⟩=some (.int .i64 fP)/\U.cell? ⟨w.heap.size,2,none⟩=some (.string eN)/\U.cell? ⟨w.heap.size,5,none⟩=some (.string jf)) ((refine Yd.o _ ?_;repeat(first|exact yX.o|refine bE ?_ rK|refine bE ?_ nI|apply bz|apply aA))) (first|(go_at_call 104;refine(rz n _ zn (HDB.o.fr (by repeat(first|exact Ro.o|refine bE ?_ nI|apply bz|apply aA)))).mono ?_;rintro e w7 ⟨rfl,nI⟩)|(go_at_call 159;refine(HH.o _ [o1,eN,⟨(jD n).toArray⟩,bP,jf,t2] _ (by repeat(first|exact Ro.o|refine bE ?_ nI|apply bz|apply aA)) (fZ _ _ _ (aY rfl)) (aY rfl) (by rw[Qe];have:=uM n;omega)).mono ?_;rintro e w8 ⟨rfl,rK⟩))
    all_goals
     have DQ:=O (show Fr aR w w8 from bE (by repeat(first|exact Ro.o|refine bE ?_ nI|apply bz|apply aA)) rK);clear rK;go_wp2;go_ret;exact⟨by rw[HR.o,HO.o,HT.o];rfl,DQ.o⟩
  ·have hq1:¬nk.toList=[97,117,116,104,45,105,110,116]:=fun h=>hqi (by rw[aO]at h;exact Go.WideShapes.bytes_inj h);have hq2:(nk.toList== [97,117,116,104,45,105,110,116])=false:=by simp[hq1]
   obtain⟨t2,Lb⟩:∃t2,t2=t0:=⟨_,rfl⟩;rw[<-Lb]at X8 ⊢;have HT:=O (show xF ⟨decide (fP=3),true,iJ,eN,nk,user,pass,method,target,body,bP,n⟩=t2 by rw[Lb,HT0.o];unfold xF;rw[aq hqi]);clear Lb;by_cases Rp:nk=.empty
   ·subst Rp;have anG:ByteArray.empty.toList=[]:=dp;have HR:=O (show oo ⟨decide (fP=3),true,iJ,eN,.empty,user,pass,method,target,body,bP,n⟩=kE (decide (fP=3)) [FC ⟨decide (fP=3),true,iJ,eN,.empty,user,pass,method,target,body,bP,n⟩,eN,xF ⟨decide (fP=3),true,iJ,eN,.empty,user,pass,method,target,body,bP,n⟩]from by unfold oo;rw[az rfl]);go_wp2_with fail
    refine(HH.o _ [o1,eN,t2] _ (by repeat(first|exact GC.o|refine bE ?_ nI|apply bz|apply aA)) (fZ _ _ [o1,eN,t2] (aY rfl)) (aY rfl) (by rw[GB];omega)).mono ?_;rintro e u9⟨rfl,ZD⟩;go_wp2;go_ret;exact⟨by rw[HR.o,HO.o,HT.o];rfl,bE (by repeat(first|exact GC.o|refine bE ?_ nI|apply bz|apply aA)) ZD⟩
   ·have ZE:¬nk.toList=[]:=fun h=>Rp (by rw[aO]at h;exact Go.WideShapes.bytes_inj h);have hq4:nk.toList.isEmpty=false:=by cases hz:nk.toList with|nil=>exact absurd hz ZE|cons _ _=>rfl
    have HR:=O (show oo ⟨decide (fP=3),true,iJ,eN,nk,user,pass,method,target,body,bP,n⟩=kE (decide (fP=3)) [FC ⟨decide (fP=3),true,iJ,eN,nk,user,pass,method,target,body,bP,n⟩,eN,⟨(jD n).toArray⟩,bP,nk,xF ⟨decide (fP=3),true,iJ,eN,nk,user,pass,method,target,body,bP,n⟩]from by unfold oo;rw[aq Rp])
    have Yd:=O (fun(U:World) (hU:Fr aR wb U)=>And.intro (HC.o U hU).1 (And.intro (HC.o U hU).2.1 (HC.o U hU).2.2.2));go_wp2_with fail
    go_region_held3 (fun U=>U.cell? ⟨w.heap.size,0,none⟩=some (.int .i64 fP)/\U.cell? ⟨w.heap.size,2,none⟩=some (.string eN)/\U.cell? ⟨w.heap.size,5,none⟩=some (.string nk)) ((refine Yd.o _ ?_;repeat(first|exact tU.o|refine bE ?_ rK|refine bE ?_ nI|apply bz|apply aA))) (first|(go_at_call 104;refine(rz n _ zn (HDB.o.fr (by repeat(first|exact GC.o|refine bE ?_ nI|apply bz|apply aA)))).mono ?_;rintro e w7 ⟨rfl,nI⟩)|(go_at_call 159;refine(HH.o _ [o1,eN,⟨(jD n).toArray⟩,bP,nk,t2] _ (by repeat(first|exact GC.o|refine bE ?_ nI|apply bz|apply aA)) (fZ _ _ _ (aY rfl)) (aY rfl) (by rw[Qe];have:=uM n;omega)).mono ?_;rintro e w8 ⟨rfl,rK⟩))
    all_goals
     have DQ:=O (show Fr aR w w8 from bE (by repeat(first|exact GC.o|refine bE ?_ nI|apply bz|apply aA)) rK);clear rK;go_wp2;go_ret;exact⟨by rw[HR.o,HO.o,HT.o];rfl,DQ.o⟩
def nK(path query:aj):aj:=if query.size=0 then path else(path++⟨#[63]⟩)++query
theorem OwnRows.kind{e:TypeId}{xs:List (List Value)}(h:OwnRows b e k w v xs){g:Nat}(hg:own v g):∃c,w.heap[g]?=some (.cells c e (0,0)):=by
 obtain⟨cap,cur,_,_,h2,_⟩:=h.open hg;exact⟨cur,h2⟩
def dt(b:Nat)(gv wv:Value):Nat->Prop:=fun k=>k=b\/own gv k\/own wv k
section
variable {base : Nat} {w w' : World} {b : Nat} {gv wv : Value} {gs : List (aP bD)} {ws : List (bI bD)}
theorem dB.uj(h:dB base w b gv wv gs ws)(hk:own gv k):∃c,w.heap[k]?=some (.cells c 114 (0,0)):=by
 obtain⟨rs,h1,_⟩:=h.bF;exact h1.kind hk
theorem dB.wQ(h:dB base w b gv wv gs ws)(hk:own wv k):∃c,w.heap[k]?=some (.cells c 133 (0,0)):=by
 obtain⟨rs,h1,_⟩:=h.waits;exact h1.kind hk
theorem dB.gw(h:dB base w b gv wv gs ws)(hk:own gv k):¬own wv k:=by
 intro h2;obtain⟨c,e1⟩:=h.uj hk;obtain⟨d,e2⟩:=h.wQ h2;rw[e1]at e2;cases e2
theorem dB.gb(h:dB base w b gv wv gs ws):¬own gv b:=by
 intro h2;obtain⟨c,e1⟩:=h.uj h2;have e2:=h.eI;rw[e1]at e2;cases e2
theorem dB.wb(h:dB base w b gv wv gs ws):¬own wv b:=by
 intro h2;obtain⟨c,e1⟩:=h.wQ h2;have e2:=h.eI;rw[e1]at e2;cases e2
theorem dB.aik(h:dB base w b gv wv gs ws)(hk:own gv k):base<=k:=by
 obtain⟨rs,h1,_⟩:=h.bF;exact h1.block k hk
theorem dB.ail(h:dB base w b gv wv gs ws)(hk:own wv k):base<=k:=by
 obtain⟨rs,h1,_⟩:=h.waits;exact h1.block k hk
theorem dB.off(h:dB base w b gv wv gs ws):sr base w (dt b gv wv):=by
 intro k hk _;rcases hk with rfl|hk|hk
 ·exact⟨h.low,fun c f e=>by rw[h.eI]at e;cases e⟩
 ·obtain⟨c,e1⟩:=h.uj hk;exact⟨h.aik hk,fun c f e=>by rw[e1]at e;cases e⟩
 ·obtain⟨c,e1⟩:=h.wQ hk;exact⟨h.ail hk,fun c f e=>by rw[e1]at e;cases e⟩
end
def kF(base:Nat)(w:World)(b:Nat)(gv wv:Value)(gs:List (aP bD))(ws:List (bI bD))(w':World):Prop :=
 ∃gv' wv',dB base w' b gv' wv' gs ws/\Fr (dt b gv wv) w w'/\∀k,dt b gv' wv' k->dt b gv wv k\/w.heap.size<=k
def Ee(go:gz)(gx:Bool)(gr:aj)(o:gz)(proxy:Bool)(aK:aj):Bool:=go.ll o&&(gx==proxy&&gr.toList==aK.toList)
def mZ(o:gz)(proxy:Bool)(aK:aj)(g:aP bD):Bool:=Ee g.o g.proxy g.a.aK o proxy aK
def Ln(o:gz)(proxy:Bool)(aK:aj)(x:List Value):Bool:=Ee (ahe x) (cB x 3) (cS x 7) o proxy aK
theorem Lp(g:aP Value)(o:gz)(proxy:Bool)(aK:aj)(w:World) :
  Calls prog 109 #[.agg g.cells.toArray,.agg o.cells.toArray,.bool proxy,.string aK] w fun e w'=>e=.returned (.bool (Ee g.o g.proxy g.a.aK o proxy aK))/\Fr aR w w':=by
 have heq:=jz g.o o;unfold aP.cells gz.cells;cases e1:g.o.ll o
 ·have HR:=O (show Ee g.o g.proxy g.a.aK o proxy aK=false by unfold Ee;rw[e1];rfl);go_enter func109,ntmps109;go_wp2;go_ret;exact⟨by rw[HR.o];rfl,((ae _ _).alloc _).alloc _⟩
 ·have HR:=O (show Ee g.o g.proxy g.a.aK o proxy aK=(g.proxy==proxy&&g.a.aK.toList==aK.toList)by unfold Ee;rw[e1];rfl);cases e2:g.proxy==proxy
  ·go_enter func109,ntmps109;go_wp2;go_ret;exact⟨by rw[HR.o,e2];rfl,((ae _ _).alloc _).alloc _⟩
  ·go_enter func109,ntmps109;go_wp2;go_ret;exact⟨by rw[HR.o,e2];rfl,((ae _ _).alloc _).alloc _⟩
theorem RH(g:aP Value)(dY:∀u∈g.cells,u.oneCell'=true)(o:gz)(proxy:Bool)(aK:aj)(bo bp br:Nat)(w:World)(ho:w.heap[bo]?=some (.cells #[.bool o.aF,.string o.host,.int .i64 o.port] 32 (0,0)))
  (hp:w.heap[bp]?=some (.cells #[.bool proxy] 4 (0,0)))(hr:w.heap[br]?=some (.cells #[.string aK] 9 (0,0))) :
  Calls prog 108 #[.agg g.cells.toArray,.pointer (some ⟨bo,0,none⟩),.pointer (some ⟨bp,0,none⟩),.pointer (some ⟨br,0,none⟩)] w fun e w'=>e=.returned (.bool (Ln o proxy aK g.cells))/\Fr aR w w':=by
 obtain⟨x,hx⟩:∃x,x=g.cells:=⟨_,rfl⟩;have lF:x.length=16:=by rw[hx];rfl
 have HX:=O hx;have D8:=O (IU lF);have jq:=fun W=>run_storeCells_new (P:=prog) W 114 #[.bool false,.string ⟨#[]⟩,.int .i64 0,.bool false,.string ⟨#[]⟩,.string ⟨#[]⟩,.int .i64 0,.string ⟨#[]⟩,.string ⟨#[]⟩,.string ⟨#[]⟩,.bool false,.string ⟨#[]⟩,.bool false,.slice none 0 0,.int .i64 0,.slice none 0 0] x (by rw[lF];rfl) (by rw[hx];exact dY)
 have gS:Fr aR w (w.alloc (.cells x.toArray 114)):=(ae aR w).alloc _;have q_:=O (gS.keep ho (fun h=>h));have Dq:=gS.keep hp (fun h=>h);have ox:=gS.keep hr (fun h=>h);have cp:(w.alloc (.cells x.toArray 114)).cell? ⟨bp,0,none⟩=some (.bool proxy):=by simp only[World.cell?,Dq];rfl
 have cr:(w.alloc (.cells x.toArray 114)).cell? ⟨br,0,none⟩=some (.string aK):=by simp only[World.cell?,ox];rfl
 have fA:=O (Lp g o proxy aK (w.alloc (.cells x.toArray 114)));rw[<-hx];rw[<-hx]at fA;clear hx ho hp hr Dq ox;go_enter func108,ntmps108
 go_wp2_with (first|((with_reducible refine cY 6 ?_);refine aH rfl 114 (.tmp 4) rfl w.heap.size rfl _ x.toArray (0,0) _ (aB w _) underlying114 rfl (by rw[aW];exact D8.o) ?_)|((with_reducible refine cY 7 ?_);refine aH rfl 32 (.tmp 1) rfl bo rfl _ _ (0,0) _ q_.o underlying32 rfl af ?_)|fail)
 refine fA.o.mono ?_;rintro e w2⟨rfl,dy⟩;go_wp2;go_ret;rw[HX.o];exact⟨rfl,gS.trans dy⟩
theorem FF(S:Nat->Prop)(w:World)(o:gz)(proxy:Bool)(aK:aj)(bo bp br:Nat)(rs:List (aP Value))(dY:∀r∈rs,∀u∈r.cells,u.oneCell'=true)
  (ho:w.heap[bo]?=some (.cells #[.bool o.aF,.string o.host,.int .i64 o.port] 32 (0,0)))(hp:w.heap[bp]?=some (.cells #[.bool proxy] 4 (0,0)))(hr:w.heap[br]?=some (.cells #[.string aK] 9 (0,0)))
  (h1:¬S bo)(h2:¬S bp)(h3:¬S br) :
  gO S w 108 #[.pointer (some ⟨bo,0,none⟩),.pointer (some ⟨bp,0,none⟩),.pointer (some ⟨br,0,none⟩)] (Ln o proxy aK) (rs.map aP.cells):=by
 intro x hx u hu;obtain⟨r,hr0,rfl⟩:=bV.1 hx;exact RH r (dY r hr0) o proxy aK bo bp br u (hu.keep ho h1) (hu.keep hp h2) (hu.keep hr h3)
theorem dB.aim{base:Nat}{w:World}{b:Nat}{gv0 gv wv:Value}{gs:List (aP bD)}{ws:List (bI bD)}(hl:base<=b)(hb:w.heap[b]?=some (.cells #[gv0,wv] 89 (0,0)))(hg:f_ base w gv gs)(hw:kl base w wv ws) :
  dB base (w.setCell ⟨b,0,none⟩ gv) b gv wv gs ws:=by
 have rS:sr base w (one b):=by
  rintro k rfl _;exact⟨hl,fun c f e=>by rw[hb]at e;cases e⟩
 have kJ:Fr (one b) w (w.setCell ⟨b,0,none⟩ gv):=(ae (one b) w).setCell (p:=⟨b,0,none⟩) (fun _=>rfl) _;refine⟨hl,b_ hb 0 gv,hg.fr kJ rS ?_,hw.fr kJ rS ?_⟩
 ·rintro k hk rfl;obtain⟨rs,h1,_⟩:=hg;obtain⟨c,e⟩:=h1.kind hk;rw[hb]at e;cases e
 ·rintro k hk rfl;obtain⟨rs,h1,_⟩:=hw;obtain⟨c,e⟩:=h1.kind hk;rw[hb]at e;cases e
theorem dB.ad1{wv0 gv wv:Value}{gs:List (aP bD)}{ws:List (bI bD)}(hl:base<=b)(hb:w.heap[b]?=some (.cells #[gv,wv0] 89 (0,0)))(hg:f_ base w gv gs)(hw:kl base w wv ws) :
  dB base (w.setCell ⟨b,1,none⟩ wv) b gv wv gs ws:=by
 have rS:sr base w (one b):=by
  rintro k rfl _;exact⟨hl,fun c f e=>by rw[hb]at e;cases e⟩
 have kJ:Fr (one b) w (w.setCell ⟨b,1,none⟩ wv):=(ae (one b) w).setCell (p:=⟨b,1,none⟩) (fun _=>rfl) _;refine⟨hl,b_ hb 1 wv,hg.fr kJ rS ?_,hw.fr kJ rS ?_⟩
 ·rintro k hk rfl;obtain⟨rs,h1,_⟩:=hg;obtain⟨c,e⟩:=h1.kind hk;rw[hb]at e;cases e
 ·rintro k hk rfl;obtain⟨rs,h1,_⟩:=hw;obtain⟨c,e⟩:=h1.kind hk;rw[hb]at e;cases e
theorem f_.zW{base:Nat}{w:World}{v:Value}{rs:List (aP Value)}{gs:List (aP bD)}{p:List Value->Bool}{q:aP bD->Bool}(h1:OwnRows base 114 16 w v ((rs.map aP.cells).filter (fun x=>!p x)))(h2:lg (aP.Reads (dr base w)) rs gs)
  (hpq:∀r g,aP.Reads (dr base w) r g->p r.cells=q g):f_ base w v (gs.filter (fun g=>!q g))/\((rs.map aP.cells).filter (fun x=>!p x)).length=(gs.filter (fun g=>!q g)).length:=by
 have hb:lg (aP.Reads (dr base w)) (rs.filter (fun r=>!p r.cells)) (gs.filter (fun g=>!q g)):=h2.filter (fun r g h=>by rw[hpq r g h]);have he:(rs.map aP.cells).filter (fun x=>!p x)=(rs.filter (fun r=>!p r.cells)).map aP.cells:=by rw[List.filter_map];rfl
 refine⟨⟨_,by rw[he]at h1;exact h1,hb⟩,?_⟩;rw[he,ai,hb.len]
theorem Cd{r:aP Value}{g:aP bD}(h:aP.Reads (dr base w) r g)(o:gz)(proxy:Bool)(aK:aj):Ln o proxy aK r.cells=mZ o proxy aK g:=by
 obtain⟨h1,h2,_,_,⟨_,h3,_⟩,_⟩:=h;unfold mZ;rw[<-h1, <-h2, <-h3];rfl
def wR(base:Nat)(w:World)(b:Nat)(gv wv:Value)(gs:List (aP bD))(ws:List (bI bD))(q:aP bD->Bool)(e:Ending)(w':World):Prop :=
 e=.returned (.bool (decide ((gs.filter (fun g=>!q g)).length<gs.length)))/\kF base w b gv wv (gs.filter (fun g=>!q g)) ws w'
theorem zX(base:Nat)(w:World)(b:Nat)(gv wv:Value)(gs:List (aP bD))(ws:List (bI bD))(o:gz)(proxy:Bool)(aK:aj)(h:dB base w b gv wv gs ws) :
  Calls prog 53 #[.pointer (some ⟨b,0,none⟩),.agg o.cells.toArray,.bool proxy,.string aK] w (wR base w b gv wv gs ws (mZ o proxy aK)):=by
 unfold gz.cells;obtain⟨av,cv,hv⟩:=h.bF.form;subst hv;have sO:=h.lt;have lp:=h.low;have pg:Fr aR w _:=(((ae aR w).alloc (.cells #[.bool o.aF,.string o.host,.int .i64 o.port] 32)).alloc (.cells #[.bool proxy] 4)).alloc (.cells #[.string aK] 9)
 have b0:(((w.alloc (.cells #[.bool o.aF,.string o.host,.int .i64 o.port] 32)).alloc (.cells #[.bool proxy] 4)).alloc (.cells #[.string aK] 9)).heap[w.heap.size]?=some (.cells #[.bool o.aF,.string o.host,.int .i64 o.port] 32 (0,0)):=by
  rw[Below.heap_alloc _ _ _ bG,Below.heap_alloc _ _ _ aQ];exact aB _ _
 have b1:(((w.alloc (.cells #[.bool o.aF,.string o.host,.int .i64 o.port] 32)).alloc (.cells #[.bool proxy] 4)).alloc (.cells #[.string aK] 9)).heap[w.heap.size+1]?=some (.cells #[.bool proxy] 4 (0,0)):=by
  rw[Below.heap_alloc _ _ _ aQ];have h:=aB (w.alloc (.cells #[.bool o.aF,.string o.host,.int .i64 o.port] 32)) (.cells #[.bool proxy] 4);simpa using h
 have b2:(((w.alloc (.cells #[.bool o.aF,.string o.host,.int .i64 o.port] 32)).alloc (.cells #[.bool proxy] 4)).alloc (.cells #[.string aK] 9)).heap[w.heap.size+2]?=some (.cells #[.string aK] 9 (0,0)):=by
  have h:=aB ((w.alloc (.cells #[.bool o.aF,.string o.host,.int .i64 o.port] 32)).alloc (.cells #[.bool proxy] 4)) (.cells #[.string aK] 9);simpa using h
 have h1:=h.dh pg;have h0:=h1.c0;have B0:=O b0;have B1:=O b1;have B2:=O b2;clear b0 b1 b2;go_enter func53,ntmps53;go_wp2_with fail
 clear h0;generalize ((w.alloc (.cells _ 32)).alloc _).alloc _=W at *
 obtain⟨rs,Bb,q_⟩:=h1.bF;have dY:∀r∈rs,∀u∈r.cells,u.oneCell'=true:=fun r hr=>(Bb.1 r.cells (bV.2 ⟨r,hr,rfl⟩)).2;have hW:w.heap.size<=W.heap.size:=pg.size;have Yh:∀k,own (.slice av gs.length cv) k->k<w.heap.size:=fun k hk=>by
  obtain⟨c,e⟩:=h.uj hk;exact bj e
 have hd:=O (xX base 108 #[.pointer (some ⟨w.heap.size,0,none⟩),.pointer (some ⟨w.heap.size+1,0,none⟩),.pointer (some ⟨w.heap.size+1+1,0,none⟩)] (Ln o proxy aK) _ _ W call108
  (FF _ W o proxy aK w.heap.size (w.heap.size+1) (w.heap.size+1+1) rs dY B0.o B1.o B2.o (fun hk=>by have:=Yh _ hk;omega) (fun hk=>by have:=Yh _ hk;omega) (fun hk=>by have:=Yh _ hk;omega)) Bb)
 refine hd.o.mono ?_;rintro e w2⟨a2,c2,rfl,yp,dy,fy⟩;have Vo:=q_.mono (fun _ _ h=>h.mono (fun _ _ h=>h.fr dy (fun k hk hl=>h1.off k (Or.inr (Or.inl hk)) hl)));obtain⟨Yb,NY⟩:=f_.zW yp Vo (fun r g h=>Cd h o proxy aK);rw[NY]at Yb fy ⊢;have kC:=dy.keep h1.eI h1.gb;have eB:=h1.waits.fr dy (fun k hk hl=>h1.off k (Or.inr (Or.inl hk)) hl) (fun k hk hg=>h1.gw hg hk);have qV:=O (dB.aim lp kC Yb eB)
 have c0:w2.cell? ⟨b,0,none⟩=some (.slice av gs.length cv):=by simp[World.cell?,kC]
 have f0:w2.frozen? ⟨b,0,none⟩=false:=by simp[World.frozen?,kC]
 have ZB:Fr (dt b (.slice av gs.length cv) wv) w w2:=fX (pg.mono (fun _ _ h=>absurd h (fun h=>h))) dy (fun k _ hk=>Or.inr (Or.inl hk));have HB:=ZB.setCell (p:=⟨b,0,none⟩) (fun _=>Or.inl rfl) (.slice a2 (gs.filter (fun g=>!mZ o proxy aK g)).length c2);have ln:∀k,dt b (.slice a2 (gs.filter (fun g=>!mZ o proxy aK g)).length c2) wv k->dt b (.slice av gs.length cv) wv k\/w.heap.size<=k:=by
  intro k hk;unfold dt at hk;rw[fy]at hk;exact Or.inl hk
 clear hd Bb q_ Vo yp kC eB Yb h1 dY Yh NY ZB;obtain⟨fs,kJ⟩:∃fs,fs=gs.filter (fun g=>!mZ o proxy aK g):=⟨_,rfl⟩;rw[<-kJ]at qV fy HB ln ⊢;have Vp:=O kJ;clear kJ;go_wp2_with fail
 go_ret;unfold wR;rw[<-Vp.o];exact⟨fx aQ,_,_,qV.o,HB,ln⟩
abbrev nL := @dB.aim
theorem RV(a:fK bD)(x:nu):a.scheme<=(pO a x).scheme:=by
 unfold pO;split
 ·exact fG _
 ·split
  ·omega
  ·exact fG _
theorem Z7:∀(l:List nu) (a:fK bD),a.scheme<=(l.foldl pO a).scheme
 |[],_=>fG _
 |x :: l,a=>Int.le_trans (RV a x) (Z7 l (pO a x))
theorem Qr:∀(l:List nu) (a:fK bD),l.foldl pO a=a\/∃x∈l,nd x=some (l.foldl pO a)
 |[],_=>Or.inl rfl
 |x :: l,a=>by
  rw[List.foldl_cons];rcases Qr l (pO a x)with h|⟨y,hy,h⟩
  ·rw[h];unfold pO;split
   ·exact Or.inl rfl
   ·rename_i b hb;split
    ·exact Or.inr ⟨x,cQ .., hb⟩
    ·exact Or.inl rfl
  ·exact Or.inr ⟨y,bN _ hy,h⟩
def Tm(p:gZ):Bool:=decide ((300:Int)<(p.1.size:Int)+(p.2.size:Int))
def MN(ps:List gZ):Bool:=decide (ps.length<=40)&&!(ps.any Tm)
def QP:List Value->gZ
 |[.string a,.string b]=>(a,b)
 |_=>(ByteArray.empty,ByteArray.empty)
theorem abp(v:Value)(ps:List gZ)(w:World)(hv:oO w v ps)(hl:ps.length<=140737488355328)(hz:∀p∈ps,p.1.size<=140737488351232/\p.2.size<=140737488351232) :
  Calls prog 83 #[v] w fun e w'=>e=.returned (.bool (MN ps))/\Fr aR w w':=by
 obtain⟨av,cv,fI⟩:=hv.form;rw[ai]at fI;subst fI;have M5:=O (CK _ #[] (fun x=>Tm (QP x)) _ _ w call151 (fun x hx u _=>by
  obtain⟨p,hp,rfl⟩:=bV.1 hx;exact XL p.1 p.2 u (hz p hp).1 (hz p hp).2) hv)
 have jn:=O (show(ps.map gZ.cells).any (fun x=>Tm (QP x))=ps.any Tm by rw[List.any_map];rfl);by_cases H':ps.length<=40
 ·have hb:=O (show MN ps=!(ps.any Tm)by unfold MN;rw[bf H'];rfl);have i40:(ps.length:Int)<=40:=ab;have d40:decide ((ps.length:Int)<=40)=true:=bf i40;go_enter func83,ntmps83;go_wp2_with fail
  refine M5.o.mono ?_;rw[jn.o];rintro e u⟨rfl,hf⟩;go_wp2;go_ret;exact⟨fx hb.o.symm,hf⟩
 ·have hb:=O (show MN ps=false by unfold MN;rw[bh H'];rfl);have i40:¬(ps.length:Int)<=40:=ab;have d40:decide ((ps.length:Int)<=40)=false:=bh i40;go_enter func83,ntmps83;go_wp2;go_ret;exact⟨fx hb.o.symm,ae _ _⟩
def ua(l:Bs):Bs:=if l.getLast?=some 13 then l.dropLast else l
def trimB(l:Bs):Bs:=Lib.trimS l [32,9]
def Dr(l:Bs):Option (Option jy) :=
 if(ua l).isEmpty then some none
 else if !(mE 58 (ua l)).2.2||!AX (mE 58 (ua l)).1 then none
 else some (some ((mE 58 (ua l)).1,trimB (mE 58 (ua l)).2.1))
def kU:List Bs->List jy->Except Nat (List jy)
 |[],acc=>.ok acc
 |l :: ls,acc =>
  match Dr l with
  |none=>.error 3
  |some none=>kU ls acc
  |some (some p)=>if acc.length=40 then .error 4 else kU ls (acc++[p])
def mQ(s:Bs):Except Nat (List jy):=if 3000<s.length then .error 4 else kU (dZ 10 s) []
def yq(ps:List jy)(n:Bs):List Bs:=(ps.filter fun p=>dG p.1 n).map (·.2)
def lu(ps:List jy)(n:Bs):Bs:=Lib.join (yq ps n) [44,32]
def qC(ps:List jy)(n:Bs):Bool:=!(yq ps n).isEmpty
theorem Y5(x y:Bs)(l:List Bs)(sep:Bs):Lib.join (x :: y :: l) sep=x++(sep++Lib.join (y :: l) sep):=by
 simp[Lib.join,List.intercalate]
def re:Bs:=[65,99,99,101,115,115,45,67,111,110,116,114,111,108,45,65,108,108,111,119,45,79,114,105,103,105,110]
def KD:Bs:=[65,99,99,101,115,115,45,67,111,110,116,114,111,108,45,65,108,108,111,119,45,67,114,101,100,101,110,116,105,97,108,115]
def KE:Bs:=[65,99,99,101,115,115,45,67,111,110,116,114,111,108,45,65,108,108,111,119,45,77,101,116,104,111,100,115]
def yr:Bs:=[65,99,99,101,115,115,45,67,111,110,116,114,111,108,45,65,108,108,111,119,45,72,101,97,100,101,114,115]
def Iq:Bs:=[65,99,99,101,115,115,45,67,111,110,116,114,111,108,45,77,97,120,45,65,103,101]
def Nr(t:Bs)(fU:Bool)(ps:List jy):Bool :=
 if !qC ps re then false
 else if(lu ps re== [42])&&!fU then true
 else if lu ps re !=t then false
 else !fU||(lu ps KD==lU)
def ni(ps:List jy):Int:=if qC ps Iq then(if oN (lu ps Iq)then min (zt (lu ps Iq)) 600 else 5)else 5
theorem Ns(ps:List jy):0<=ni ps/\ni ps<=600/\(qC ps Iq=true\/ni ps=5):=by
 unfold ni;split
 ·rename_i h;split
  ·rename_i hd;unfold oN at hd;simp only[cD]at hd;have:=ym (lu ps Iq) 0 hd.2 ag ag;unfold zt;exact⟨ab,ab,Or.inl h⟩
  ·exact⟨ag,ag,Or.inl h⟩
 ·exact⟨ag,ag,Or.inr rfl⟩
def lf(ps:List jy)(n:Bs):Option (List Bs) :=
 match gY (lu ps n)with
 | .error _=>none
 | .ok l=>if 40<l.length then none else some l
def qo(ps:List ef)(p:ef):List ef:=if ps.any (fun q=>q.ll p)then ps else ps++[p]
def ra.Ds(r:ra)(pX:Int)(m h:aj):ef:=⟨r.dm,r.o,r.path,r.query,r.fU,m,h,pX⟩
def ra.methods(r:ra)(ms:List Bs):List aj:=if ms.isEmpty then [jM r.method]else ms.map bA
def ra.bF(r:ra)(pX:Int)(ms hs:List Bs):List ef :=
 (hs.map fun h=>r.Ds pX (bA []) (bA (nw h))).foldl qo ((r.methods ms |>.map fun m=>r.Ds pX m (bA [])).foldl qo [])
def uI(r:ra)(t:Bs)(ps:List jy)(now:Int):Except Nat (List ef) :=
 match lf ps KE,lf ps yr with
 |some ms,some hs =>
  if !Nr t r.fU ps then .error 6
  else if !r.ng (r.bF (now+ni ps) ms hs)then .error 6
  else .ok (r.bF (now+ni ps) ms hs)
 |_,_=>.error 3
