/- Rdr2, Resp, PrintP. -/
import Derived.Test.YtjdmjbdkdmbaiaaGreatDoorPk19
set_option maxRecDepth 100000
set_option maxHeartbeats 16000000
set_option linter.unusedSimpArgs false
namespace Go.Proofs.YtjdmjbdkdmbaiaaGreatDoor
open Go.RowKit
theorem Ak(s cs:ByteArray)(w:World)(hcs:cs.size<4294967281)(F7:∀b∈cs.data.toList,b.toNat<128) :
  Calls Tryz.prog 217 #[.string s,.string cs] w fun e w'=>e=.returned (.string ⟨(s.data.toList.dropWhile (cs.data.toList.contains ·)).toArray⟩)/\Fr ay w w':=by
 refine(Any.strings_TrimLeft_laid Tryz.Tp (by kernel_rfl) s cs w hcs (fun j b hj=>F7 b (List.mem_of_getElem? hj))).mono ?_;rintro e w'⟨he,hb⟩;exact⟨he,Fr.gW hb⟩
theorem xe{x:Int}(h: -9223372036854775808<=x)(h2:x<9223372036854775808):IntKind.i64.wrap x=x:=by
 simp[IntKind.wrap,IntKind.signed,IntKind.bits];omega
def Y_:ByteArray:=⟨Nx.toArray⟩
theorem KE:∀b∈Y_.data.toList,b.toNat<128:=by decide +kernel
def BN(s:ByteArray)(i:Nat):Nat:=(gN (s.data.toList.drop i)).length
def MR(s:ByteArray)(i:Nat):Nat:=(iX (s.data.toList.drop i)).length
theorem afH(s:ByteArray){i:Nat}(h:i<=s.size):i+BN s i+MR s i<=s.size:=by
 have h1:=kp zp (s.data.toList.drop i);have h2:=kp eN ((s.data.toList.drop i).dropWhile zp);unfold BN MR gN iX;simp at h1;omega
theorem drop_take{p:UInt8->Bool}(l:Bs)(i:Nat):l.drop (i+((l.drop i).takeWhile p).length)=(l.drop i).dropWhile p:=by
 rw[<-List.drop_drop, <-jI]
theorem tG(s:ByteArray)(i:Nat):s.data.toList.drop (i+BN s i)=(s.data.toList.drop i).dropWhile zp:=drop_take _ _
theorem xM(s:ByteArray)(i:Nat):s.data.toList.drop (i+BN s i+MR s i)=mI (s.data.toList.drop i):=by
 unfold MR iX mI;rw[<-tG];exact drop_take _ _
theorem tH(s:ByteArray)(i:Nat):(s.extract i s.size).data.toList=s.data.toList.drop i:=by
 rw[Lib.extract_data,List.take_of_length_le (by simp)]
theorem TY(s:ByteArray)(i:Nat):s.extract i (i+BN s i+MR s i)=⟨(gN (s.data.toList.drop i)++iX (s.data.toList.drop i)).toArray⟩:=by
 apply Go.WideShapes.bytes_inj;rw[Lib.extract_data];show _=gN (s.data.toList.drop i)++iX (s.data.toList.drop i);have e1:gN (s.data.toList.drop i)++(iX (s.data.toList.drop i)++mI (s.data.toList.drop i))=s.data.toList.drop i:=by
  unfold gN iX mI;rw[List.takeWhile_append_dropWhile,List.takeWhile_append_dropWhile]
 have e2:i+BN s i+MR s i-i=(gN (s.data.toList.drop i)++iX (s.data.toList.drop i)).length:=by
  unfold BN MR;rw[List.length_append];omega
 have key:∀(A B Z D:Bs),A++(B++Z)=D->D.take (A++B).length=A++B:=by
  intro A B Z D h;subst h;rw[<-List.append_assoc,List.take_left' rfl]
 rw[e2];exact key _ _ _ _ e1
def h_(c i:Nat)(s:ByteArray)(w:World)(e:Ending)(w':World):Prop :=
 Fr (one c) w w'/\match singleR (s.data.toList.drop i)with
  |some q=>e=.returned (.tuple #[.string ⟨q.1.toArray⟩,.bool true])/\∃j,j<=s.size/\aU w' c s j/\s.data.toList.drop j=q.2
  |none=>e=.returned (.tuple #[.string ⟨#[]⟩,.bool false])/\aU w' c s i
theorem h_.hit{c i j:Nat}{s:ByteArray}{w w':World}{q:Bs×Bs}(h:singleR (s.data.toList.drop i)=some q)(hf:Fr (one c) w w')(hj:j<=s.size)(hc:aU w' c s j)(hd:s.data.toList.drop j=q.2) :
  h_ c i s w (.returned (.tuple #[.string ⟨q.1.toArray⟩,.bool true])) w':=by
 refine⟨hf,?_⟩;rw[h];exact⟨rfl,j,hj,hc,hd⟩
theorem h_.no{c i:Nat}{s:ByteArray}{w w':World}(h:singleR (s.data.toList.drop i)=none)(hf:Fr (one c) w w')(hc:aU w' c s i) :
  h_ c i s w (.returned (.tuple #[.string ⟨#[]⟩,.bool false])) w':=by
 refine⟨hf,?_⟩;rw[h];exact⟨rfl,hc⟩
theorem Fr.iC{S:Nat->Prop}{w w':World}(h:Fr ay w w'):Fr S w w':=h.mono (fun _ _ h=>absurd h (fun h=>h))
theorem Gh(b c i:Nat)(s:ByteArray)(v:Value)(w:World)(hr:dQ w b c s v)(h:aU w c s i)(hs:s.size<100000)(hi:i<=s.size) :
  Calls Tryz.prog 160 #[.pointer (some ⟨b,0,none⟩)] w (h_ c i s w):=by
 have hm:s.size<=maxLen:=by unfold maxLen;omega
 have q0:=hr.cell0;have q1:=hr.dM;have hle:=afH s hi;have HD1:=O (tG s i);have Wx:=O (xM s i);have HT:=O (TY s i);have HR:=O (show singleR (s.data.toList.drop i)=if decide (0<BN s i)&&jl (s.data.toList.drop (i+BN s i+MR s i))then some (gN (s.data.toList.drop i)++iX (s.data.toList.drop i),bS (s.data.toList.drop (i+BN s i+MR s i)))else none by
  unfold singleR;rw[xM];have:(!(gN (s.data.toList.drop i)).isEmpty)=decide (0<BN s i):=by
   unfold BN;cases gN (s.data.toList.drop i)<;>simp
  rw[this])
 have T1:=O (show∀U,Calls Tryz.prog 217 #[.string (s.extract i s.size),.string Y_] U fun e w'=>e=.returned (.string (s.extract (i+BN s i) s.size))/\Fr ay U w' from fun U=>by
  have e1:s.extract (i+BN s i) s.size=⟨((s.extract i s.size).data.toList.dropWhile (Y_.data.toList.contains ·)).toArray⟩:=by
   apply Go.WideShapes.bytes_inj;rw[tH,tH,tG];rfl
  rw[e1];exact Ak _ _ U (by decide) KE)
 have T2:=O (show∀U,Calls Tryz.prog 217 #[.string (s.extract (i+BN s i) s.size),.string ⟨#[61]⟩] U fun e w'=>e=.returned (.string (s.extract (i+BN s i+MR s i) s.size))/\Fr ay U w' from fun U=>by
  have e1:s.extract (i+BN s i+MR s i) s.size=⟨((s.extract (i+BN s i) s.size).data.toList.dropWhile ((⟨#[61]⟩:ByteArray).data.toList.contains ·)).toArray⟩:=by
   apply Go.WideShapes.bytes_inj;rw[tH,tH,tG,xM];rfl
  rw[e1];exact Ak _ _ U (by decide) (by decide))
 generalize hN:BN s i=N at *
 generalize hM:MR s i=M at *
 clear hN hM;generalize gN (s.data.toList.drop i)++iX (s.data.toList.drop i)=TX at *
 have hJ1:i<=i+N:=by omega
 have hJ2:i+N<=i+N+M:=by omega
 have hJN:i+N-i=N:=by omega
 have hLM:i+N+M-(i+N)=M:=by omega
 generalize hL:i+N+M=L at *
 generalize hJ:i+N=J at *
 have E1:=O hJ;have E2:=O hL;clear hL hJ;have HNM:=O (And.intro hJN hLM);clear hJN hLM;have iy:(s.extract i s.size).size=s.size-i:=by rw[ByteArray.size_extract];omega
 have gU:(s.extract J s.size).size=s.size-J:=by rw[ByteArray.size_extract];omega
 have Jb:(s.extract L s.size).size=s.size-L:=by rw[ByteArray.size_extract];omega
 have W1:=O (show IntKind.i64.wrap (((s.size-i:Nat):Int)-((s.size-J:Nat):Int))=(N:Int)by
  have e:=HNM.out.1;rw[show(((s.size-i:Nat):Int)-((s.size-J:Nat):Int))=(N:Int)from by omega];exact xe (by omega) (by omega))
 have W2:=O (show IntKind.i64.wrap (((s.size-J:Nat):Int)-((s.size-L:Nat):Int))=(M:Int)by
  have e:=HNM.out.2;rw[show(((s.size-J:Nat):Int)-((s.size-L:Nat):Int))=(M:Int)from by omega];exact xe (by omega) (by omega))
 have W3:=O (show IntKind.i64.wrap ((i:Int)+(N:Int))=(J:Int)by
  have e:=HNM.out.1;rw[show((i:Int)+(N:Int))=(J:Int)from by omega];exact xe (by omega) (by omega))
 have W4:=O (show IntKind.i64.wrap ((J:Int)+(M:Int))=(L:Int)by
  have e:=HNM.out.2;rw[show((J:Int)+(M:Int))=(L:Int)from by omega];exact xe (by omega) (by omega))
 have Jc:=O (show∀U,Fr ay w U->dQ U b c s v/\aU U c s i from fun U hU=>⟨hr.fr hU (fun h=>h),h.fr hU (fun h=>h)⟩);go_enter Tryz.func160,Tryz.ntmps160;go_wp2_with fail
 refine(uM c s i w h).mono ?_;rintro e w0⟨rfl,rfl⟩;have b1:(0:Int)<=(i:Int):=by omega
 have b2:(i:Int)<=(s.size:Int):=by omega
 go_wp2_with fail
 go_region_held3 (fun U=>U.cell? ⟨b,1,none⟩=some (.string s)) ((refine(Jc.out _ ?_).1.dM;repeat(first|exact Fr.refl _ _|apply Fr.alloc|apply Fr.drew|refine Fr.trans ?_ (by assumption)))) ((go_at_call 217;refine(T1.out _).mono ?_;rintro e v1 ⟨rfl,FG⟩))
 rw[W1.out];obtain⟨sL,kS⟩:=Jc.out v1 (by repeat(first|exact Fr.refl _ _|apply Fr.alloc|apply Fr.drew|apply Fr.drewN|refine Fr.trans ?_ (by assumption)));have gV:=O (show Fr ay w v1 from(by repeat(first|exact Fr.refl _ _|apply Fr.alloc|apply Fr.drew|apply Fr.drewN|refine Fr.trans ?_ (by assumption))));clear FG;have q1:=sL.dM;have b3:(0:Int)<=(J:Int):=by omega
 have b4:(J:Int)<=(s.size:Int):=by omega
 have w3:=W3.out;go_wp2_with fail
 go_region_held3 (fun U=>U.cell? ⟨b,1,none⟩=some (.string s)) ((refine(Jc.out _ ?_).1.dM;repeat(first|exact Fr.refl _ _|exact gV.out|apply Fr.alloc|apply Fr.drew|refine Fr.trans ?_ (by assumption)))) ((go_at_call 217;refine(T2.out _).mono ?_;rintro e v2 ⟨rfl,hv2⟩))
 rw[W2.out];obtain⟨kR,nW⟩:=Jc.out v2 (by repeat(first|exact Fr.refl _ _|exact gV.out|apply Fr.alloc|apply Fr.drew|apply Fr.drewN|refine Fr.trans ?_ (by assumption)));have dk:=O (show Fr ay w v2 from(by repeat(first|exact Fr.refl _ _|exact gV.out|apply Fr.alloc|apply Fr.drew|apply Fr.drewN|refine Fr.trans ?_ (by assumption))));clear hv2 q1 sL kS;have q0:=kR.cell0;have q1:=kR.dM;have w4:=W4.out
 go_wp2_with fail
 refine(rL c s i L v2 nW hm).mono ?_;rintro e v3⟨rfl,nX,dv⟩;rw[od hle]at nX;have oT:=kR.one nW dv;have dV:=O (dk.out.iC.trans dv);have q0:=oT.cell0;have q1:=oT.dM;by_cases Jd:0<N
 ·have n0:(0:Int)<(N:Int):=by omega
  rw[decide_eq_true Jd,Bool.true_and]at HR;go_wp2_with fail
  refine(xL b c L s v v3 oT nX hm hle).mono ?_;rintro e v4⟨rfl,nU,bT⟩;have qX:=oT.one nX bT;have q0:=qX.cell0;have q1:=qX.dM;have xf:=O (jN s L);have WI:=rW (s:=s) hle;cases ho:jl (s.data.toList.drop L)
  ·rw[ho]at HR;go_wp2_with fail
   refine(rL c s _ i v4 nU hm).mono ?_;rintro e v5⟨rfl,nV,gH⟩;rw[od hi]at nV;go_wp2;go_ret2;exact h_.no (by rw[HR.out];rfl) ((dV.out.trans bT).trans gH) nV
  ·rw[ho]at HR;have b5:(i:Int)<=(L:Int):=by omega
   have b6:(L:Int)<=(s.size:Int):=by omega
   have b7:(0:Int)<=(L:Int):=by omega
   go_wp2;go_ret2;rw[HT.out];exact h_.hit (q:=(TX,bS (s.data.toList.drop L))) (by rw[HR.out];rfl) (dV.out.trans bT) WI nU xf.out
 ·have n0:¬(0:Int)<(N:Int):=by omega
  rw[decide_eq_false Jd,Bool.false_and]at HR;go_wp2_with fail
  refine(rL c s _ i v3 nX hm).mono ?_;rintro e v5⟨rfl,nV,gH⟩;rw[od hi]at nV;go_wp2;go_ret2;exact h_.no (by rw[HR.out];rfl) (dV.out.trans gH) nV
structure je where
 Gq:Bool
 aL:Bool
 ar:ByteArray
 aE:ByteArray
 bU:ByteArray
 user:ByteArray
 pass:ByteArray
 method:ByteArray
 target:ByteArray
 body:ByteArray
 aB:ByteArray
 n:Nat
def dZ:ByteArray:=⟨#[97,117,116,104,45,105,110,116]⟩
def zz(x:je):ByteArray:=if x.aL then fi x.Gq [fi x.Gq [x.user,x.ar,x.pass],x.aE,x.aB]else fi x.Gq [x.user,x.ar,x.pass]
def qZ(x:je):ByteArray:=if x.bU=dZ then fi x.Gq [x.method,x.target,fi x.Gq [x.body]]else fi x.Gq [x.method,x.target]
def js(x:je):ByteArray:=if x.bU=.empty then fi x.Gq [zz x,x.aE,qZ x]else fi x.Gq [zz x,x.aE,⟨(ez x.n).toArray⟩,x.aB,x.bU,qZ x]
theorem at_len(k:Nat){P:Program}{f:FuncId}{x:Value}{a:Option Addr}{c:Nat}{W:World}{NR:Ending->World->Prop}(h:Calls P f #[x,.slice a k c] W NR):Calls P f #[x,.slice a k c] W NR:=h
theorem WS:¬dZ=.empty:=by decide +kernel
theorem mT{w:World}{v:Value}{ss:List ByteArray}(h:cX w v ss):cX w.drew v ss:=h
theorem WT(a:ByteArray):(fB [a]).length=a.size:=by simp[fB,Lib.join,List.intercalate]
theorem WU(a b:ByteArray):(fB [a,b]).length=a.size+b.size+1:=by simp[fB,Lib.join,List.intercalate];omega
theorem Ax(a b c:ByteArray):(fB [a,b,c]).length=a.size+b.size+c.size+2:=by simp[fB,Lib.join,List.intercalate];omega
theorem Jw(a b c d e f:ByteArray):(fB [a,b,c,d,e,f]).length=a.size+b.size+c.size+d.size+e.size+f.size+5:=by simp[fB,Lib.join,List.intercalate];omega
theorem oo(n:Nat):(⟨(ez n).toArray⟩:ByteArray).size=8:=by show(ez n).toArray.size=8;simp[ez,jd]
structure je.Small (x:je):Prop where
 ar:x.ar.size<=5000
 aE:x.aE.size<=5000
 bU:x.bU.size<=5000
 user:x.user.size<=5000
 pass:x.pass.size<=5000
 method:x.method.size<=5000
 target:x.target.size<=5000
 body:x.body.size<=5000
 aB:x.aB.size<=5000
 n:x.n<4294967296
theorem tO(r:cQ Value)(x:je)(w:World)(hx:x.Small)(h1:r.ar=x.ar)(h2:r.aE=x.aE)(h3:r.bU=x.bU)(h4:r.aL=x.aL)(h5:x.Gq=decide (r.scheme=3))
  (bG:r.dom.oneCell'=true)(Gs:iu w 9 .u8 Gr)(hh:ni r.scheme w) :
  Calls Tryz.prog 46 #[.agg #[.int .i64 r.scheme,.string r.ar,.string r.aE,.string r.aK,.bool r.aL,.string r.bU,.bool r.aX,r.dom],.agg #[.string x.user,.string x.pass],.string x.method,.string x.target,.string x.body,.string x.aB,.int .i64 x.n] w
   fun e w'=>e=.returned (.string (js x))/\Fr ay w w':=by
 obtain⟨Gq,aL,ar,aE,bU,user,pass,method,target,body,aB,n⟩:=x;obtain⟨cH,dR,bO,aK,Jy,iD,aX,dom⟩:=r;obtain⟨z1,z2,z3,z4,z5,z6,z7,z8,z9,zn⟩:=hx;simp only at h1 h2 h3 h4 h5 bG z1 z2 z3 z4 z5 z6 z7 z8 z9 zn hh ⊢;subst h1 h2 h3 h4 h5;have HDB:=O Gs;have HH:=O hh;have HD1:=O bG;clear Gs hh;go_enter Tryz.func46,Tryz.ntmps46;go_wp2_with fail
 obtain⟨wb,eQ⟩:∃wb,wb=(w.alloc (.cells #[.int .i64 cH,.string dR,.string bO,.string aK,.bool Jy,.string iD,.bool aX,dom] 47)).alloc (.cells #[.string user,.string pass] 31):=⟨_,rfl⟩;have mz:wb.heap.size=w.heap.size+1+1:=by rw[eQ];simp
 have fa:Fr ay w wb:=by rw[eQ];exact((Fr.refl ay w).alloc _).alloc _
 have hk:wb.heap[w.heap.size]?=some (.cells #[.int .i64 cH,.string dR,.string bO,.string aK,.bool Jy,.string iD,.bool aX,dom] 47 (0,0)):=by rw[eQ];exact((Fr.refl ay _).alloc _).keep (af _ _) (fun h=>h)
 have HC:=O (show∀U,Fr ay wb U->U.cell? ⟨w.heap.size,0,none⟩=some (.int .i64 cH)/\U.cell? ⟨w.heap.size,2,none⟩=some (.string bO)/\U.cell? ⟨w.heap.size,4,none⟩=some (.bool Jy)/\U.cell? ⟨w.heap.size,5,none⟩=some (.string iD)from fun U hU=>by
  have ng:=hU.keep hk (fun h=>h);simp[World.cell?,ng])
 have hv:=cT wb 9 [user,dR,pass] (Nat.le_of_ble_eq_true rfl);rw[mz]at hv;rw[<-eQ];clear eQ hk;refine(HH.out _ [user,dR,pass] _ (fa.alloc _) hv (Nat.le_of_ble_eq_true rfl) (by rw[Ax];omega)).mono ?_;rintro e u1⟨rfl,bt⟩;have gV:=O (show Fr ay wb u1 from((Fr.refl ay wb).alloc _).trans bt);have D3:=O (fa.trans gV.out);obtain⟨c0,c2,c4,c5⟩:=HC.out u1 gV.out
 obtain⟨o0,ho0⟩:∃o0,o0=fi (decide (cH=3)) [user,dR,pass]:=⟨_,rfl⟩;have hoz:o0.size<=64:=by rw[ho0];exact gl _ _
 rw[<-ho0];have HO0:=O ho0;clear ho0;clear hv bt mz;cases Jy
 ·obtain⟨o1,uT⟩:∃o1,o1=o0:=⟨_,rfl⟩;rw[<-uT]at hoz ⊢;have HO:=O (show zz ⟨decide (cH=3),false,dR,bO,iD,user,pass,method,target,body,aB,n⟩=o1 by rw[uT,HO0.out];rfl);clear uT;go_wp2_with fail
  refine(HH.out _ [method,target] _ (by repeat(first|exact D3.out|refine Fr.trans ?_ jC|apply Fr.alloc|apply Fr.drew)) (cT _ _ [method,target] (Nat.le_of_ble_eq_true rfl)) (Nat.le_of_ble_eq_true rfl) (by rw[WU];omega)).mono ?_;rintro e u5⟨rfl,gH⟩;have rj:=O (show Fr ay wb u5 from Fr.trans (by repeat(first|exact gV.out|apply Fr.alloc|apply Fr.drew)) gH);have Ay:=O (fa.trans rj.out)
  obtain⟨d0,d2,d4,d5⟩:=HC.out u5 rj.out;clear c0 c2 c4 c5 gH;obtain⟨t0,Uo⟩:∃t0,t0=fi (decide (cH=3)) [method,target]:=⟨_,rfl⟩;have SK:t0.size<=64:=by rw[Uo];exact gl _ _
  rw[<-Uo];have HT0:=O Uo;clear Uo;by_cases Zs:iD=dZ
  ·subst Zs;have hai:dZ.toList=[97,117,116,104,45,105,110,116]:=by decide +kernel
   have HRI:=O (show js ⟨decide (cH=3),false,dR,bO,dZ,user,pass,method,target,body,aB,n⟩=fi (decide (cH=3)) [zz ⟨decide (cH=3),false,dR,bO,dZ,user,pass,method,target,body,aB,n⟩,bO,⟨(ez n).toArray⟩,aB,dZ,qZ ⟨decide (cH=3),false,dR,bO,dZ,user,pass,method,target,body,aB,n⟩]from by unfold js;rw[if_neg WS])
   have HTI:=O (show qZ ⟨decide (cH=3),false,dR,bO,dZ,user,pass,method,target,body,aB,n⟩=fi (decide (cH=3)) [method,target,fi (decide (cH=3)) [body]]from by unfold qZ;rw[if_pos rfl]);have hbz:=gl (decide (cH=3)) [body];obtain⟨bb,ry⟩:∃bb,bb=fi (decide (cH=3)) [body]:=⟨_,rfl⟩;have HBB:=O ry;rw[<-ry]at hbz HTI;clear ry;go_wp2_with fail
   go_region_held3 (fun U=>U.cell? ⟨w.heap.size,0,none⟩=some (.int .i64 cH)) ((refine(HC.out _ ?_).1;repeat(first|exact rj.out|refine Fr.trans ?_ mO|refine Fr.trans ?_ jC|apply Fr.alloc|apply Fr.drew))) (first|((with_reducible refine at_len 1 ?_);go_at_call 101;refine(HH.out _ [body] _ (by repeat(first|exact Ay.out|apply Fr.alloc|apply Fr.drew)) (by first|exact cT _ _ [body] (Nat.le_of_ble_eq_true rfl)|exact mT (cT _ _ [body] (Nat.le_of_ble_eq_true rfl))) (Nat.le_of_ble_eq_true rfl) (by rw[WT];omega)).mono ?_;rw[<-HBB.out];rintro e w7 ⟨rfl,jC⟩)|((with_reducible refine at_len 3 ?_);go_at_call 101;refine(HH.out _ [method,target,bb] _ (by repeat(first|exact Ay.out|refine Fr.trans ?_ jC|apply Fr.alloc|apply Fr.drew)) (by first|exact cT _ _ [method,target,bb] (Nat.le_of_ble_eq_true rfl)|exact mT (cT _ _ [method,target,bb] (Nat.le_of_ble_eq_true rfl))) (Nat.le_of_ble_eq_true rfl) (by rw[Ax];omega)).mono ?_;rintro e w8 ⟨rfl,mO⟩))
   all_goals
    have uE:=O (show Fr ay wb w8 from by repeat(first|exact rj.out|refine Fr.trans ?_ mO|refine Fr.trans ?_ jC|apply Fr.alloc|apply Fr.drew));have D4:=O (fa.trans uE.out);clear jC mO d0 d2 d4 d5;obtain⟨d0,d2,d4,d5⟩:=HC.out w8 uE.out;obtain⟨t2,D5⟩:∃t2,t2=fi (decide (cH=3)) [method,target,bb]:=⟨_,rfl⟩;have anD:t2.size<=64:=by rw[D5];exact gl _ _
    rw[<-D5];have HT:=O (HTI.out.trans D5.symm);have HR:=O HRI.out;clear D5;have anE:¬dZ.toList=[]:=by rw[hai];simp
    have SV:=O (fun(U:World) (hU:Fr ay wb U)=>And.intro (HC.out U hU).1 (And.intro (HC.out U hU).2.1 (HC.out U hU).2.2.2));clear SK;go_wp2_with fail
    go_region_held3 (fun U=>U.cell? ⟨w.heap.size,0,none⟩=some (.int .i64 cH)/\U.cell? ⟨w.heap.size,2,none⟩=some (.string bO)/\U.cell? ⟨w.heap.size,5,none⟩=some (.string dZ)) ((refine SV.out _ ?_;repeat(first|exact uE.out|refine Fr.trans ?_ mO|refine Fr.trans ?_ jC|apply Fr.alloc|apply Fr.drew))) (first|(go_at_call 47;refine(lK n _ zn (HDB.out.fr (by repeat(first|exact D4.out|refine Fr.trans ?_ jC|apply Fr.alloc|apply Fr.drew)))).mono ?_;rintro e w7 ⟨rfl,jC⟩)|(go_at_call 101;refine(HH.out _ [o1,bO,⟨(ez n).toArray⟩,aB,dZ,t2] _ (by repeat(first|exact D4.out|refine Fr.trans ?_ jC|apply Fr.alloc|apply Fr.drew)) (cT _ _ _ (Nat.le_of_ble_eq_true rfl)) (Nat.le_of_ble_eq_true rfl) (by rw[Jw];have:=oo n;omega)).mono ?_;rintro e w8 ⟨rfl,mO⟩))
    all_goals
     have se:=O (show Fr ay w w8 from Fr.trans (by repeat(first|exact D4.out|refine Fr.trans ?_ jC|apply Fr.alloc|apply Fr.drew)) mO);clear mO;go_wp2;go_ret;exact⟨by rw[HR.out,HO.out,HT.out];rfl,se.out⟩
  ·have SN:¬iD.toList=[97,117,116,104,45,105,110,116]:=fun h=>Zs (by rw[ByteArray.toList_eq]at h;exact Go.WideShapes.bytes_inj h);have hq2:(iD.toList== [97,117,116,104,45,105,110,116])=false:=by simp[SN]
   obtain⟨t2,D5⟩:∃t2,t2=t0:=⟨_,rfl⟩;rw[<-D5]at SK ⊢;have HT:=O (show qZ ⟨decide (cH=3),false,dR,bO,iD,user,pass,method,target,body,aB,n⟩=t2 by rw[D5,HT0.out];unfold qZ;rw[if_neg Zs]);clear D5;by_cases KV:iD=.empty
   ·subst KV;have anF:ByteArray.empty.toList=[]:=by decide +kernel
    have HR:=O (show js ⟨decide (cH=3),false,dR,bO,.empty,user,pass,method,target,body,aB,n⟩=fi (decide (cH=3)) [zz ⟨decide (cH=3),false,dR,bO,.empty,user,pass,method,target,body,aB,n⟩,bO,qZ ⟨decide (cH=3),false,dR,bO,.empty,user,pass,method,target,body,aB,n⟩]from by unfold js;rw[if_pos rfl]);go_wp2_with fail
    refine(HH.out _ [o1,bO,t2] _ (by repeat(first|exact Ay.out|refine Fr.trans ?_ jC|apply Fr.alloc|apply Fr.drew)) (cT _ _ [o1,bO,t2] (Nat.le_of_ble_eq_true rfl)) (Nat.le_of_ble_eq_true rfl) (by rw[Ax];omega)).mono ?_;rintro e u9⟨rfl,Up⟩;go_wp2;go_ret;exact⟨by rw[HR.out,HO.out,HT.out];rfl,Fr.trans (by repeat(first|exact Ay.out|refine Fr.trans ?_ jC|apply Fr.alloc|apply Fr.drew)) Up⟩
   ·have Uq:¬iD.toList=[]:=fun h=>KV (by rw[ByteArray.toList_eq]at h;exact Go.WideShapes.bytes_inj h);have hq4:iD.toList.isEmpty=false:=by cases hz:iD.toList with|nil=>exact absurd hz Uq|cons _ _=>rfl
    have HR:=O (show js ⟨decide (cH=3),false,dR,bO,iD,user,pass,method,target,body,aB,n⟩=fi (decide (cH=3)) [zz ⟨decide (cH=3),false,dR,bO,iD,user,pass,method,target,body,aB,n⟩,bO,⟨(ez n).toArray⟩,aB,iD,qZ ⟨decide (cH=3),false,dR,bO,iD,user,pass,method,target,body,aB,n⟩]from by unfold js;rw[if_neg KV])
    have SV:=O (fun(U:World) (hU:Fr ay wb U)=>And.intro (HC.out U hU).1 (And.intro (HC.out U hU).2.1 (HC.out U hU).2.2.2));go_wp2_with fail
    go_region_held3 (fun U=>U.cell? ⟨w.heap.size,0,none⟩=some (.int .i64 cH)/\U.cell? ⟨w.heap.size,2,none⟩=some (.string bO)/\U.cell? ⟨w.heap.size,5,none⟩=some (.string iD)) ((refine SV.out _ ?_;repeat(first|exact rj.out|refine Fr.trans ?_ mO|refine Fr.trans ?_ jC|apply Fr.alloc|apply Fr.drew))) (first|(go_at_call 47;refine(lK n _ zn (HDB.out.fr (by repeat(first|exact Ay.out|refine Fr.trans ?_ jC|apply Fr.alloc|apply Fr.drew)))).mono ?_;rintro e w7 ⟨rfl,jC⟩)|(go_at_call 101;refine(HH.out _ [o1,bO,⟨(ez n).toArray⟩,aB,iD,t2] _ (by repeat(first|exact Ay.out|refine Fr.trans ?_ jC|apply Fr.alloc|apply Fr.drew)) (cT _ _ _ (Nat.le_of_ble_eq_true rfl)) (Nat.le_of_ble_eq_true rfl) (by rw[Jw];have:=oo n;omega)).mono ?_;rintro e w8 ⟨rfl,mO⟩))
    all_goals
     have se:=O (show Fr ay w w8 from Fr.trans (by repeat(first|exact Ay.out|refine Fr.trans ?_ jC|apply Fr.alloc|apply Fr.drew)) mO);clear mO;go_wp2;go_ret;exact⟨by rw[HR.out,HO.out,HT.out];rfl,se.out⟩
 ·go_wp2_with fail
  refine(HH.out _ [o0,bO,aB] _ (by repeat(first|exact D3.out|apply Fr.alloc|apply Fr.drew)) (cT _ _ [o0,bO,aB] (Nat.le_of_ble_eq_true rfl)) (Nat.le_of_ble_eq_true rfl) (by rw[Ax];omega)).mono ?_;rintro e u2⟨rfl,bq⟩;have dk:=O (show Fr ay wb u2 from Fr.trans (by repeat(first|exact gV.out|apply Fr.alloc|apply Fr.drew)) bq);have ka:=O (fa.trans dk.out);clear c0 c2 c4 c5 bq
  obtain⟨c0,c2,c4,c5⟩:=HC.out u2 dk.out;obtain⟨o1,uT⟩:∃o1,o1=fi (decide (cH=3)) [o0,bO,aB]:=⟨_,rfl⟩;have avY:o1.size<=64:=by rw[uT];exact gl _ _
  rw[<-uT];have HO:=O (show zz ⟨decide (cH=3),true,dR,bO,iD,user,pass,method,target,body,aB,n⟩=o1 by rw[uT,HO0.out];rfl);clear uT;go_wp2_with fail
  refine(HH.out _ [method,target] _ (by repeat(first|exact ka.out|refine Fr.trans ?_ jC|apply Fr.alloc|apply Fr.drew)) (cT _ _ [method,target] (Nat.le_of_ble_eq_true rfl)) (Nat.le_of_ble_eq_true rfl) (by rw[WU];omega)).mono ?_;rintro e u5⟨rfl,gH⟩;have rj:=O (show Fr ay wb u5 from Fr.trans (by repeat(first|exact dk.out|apply Fr.alloc|apply Fr.drew)) gH);have Ay:=O (fa.trans rj.out)
  obtain⟨d0,d2,d4,d5⟩:=HC.out u5 rj.out;clear c0 c2 c4 c5 gH;obtain⟨t0,Uo⟩:∃t0,t0=fi (decide (cH=3)) [method,target]:=⟨_,rfl⟩;have SK:t0.size<=64:=by rw[Uo];exact gl _ _
  rw[<-Uo];have HT0:=O Uo;clear Uo;by_cases Zs:iD=dZ
  ·subst Zs;have hai:dZ.toList=[97,117,116,104,45,105,110,116]:=by decide +kernel
   have HRI:=O (show js ⟨decide (cH=3),true,dR,bO,dZ,user,pass,method,target,body,aB,n⟩=fi (decide (cH=3)) [zz ⟨decide (cH=3),true,dR,bO,dZ,user,pass,method,target,body,aB,n⟩,bO,⟨(ez n).toArray⟩,aB,dZ,qZ ⟨decide (cH=3),true,dR,bO,dZ,user,pass,method,target,body,aB,n⟩]from by unfold js;rw[if_neg WS])
   have HTI:=O (show qZ ⟨decide (cH=3),true,dR,bO,dZ,user,pass,method,target,body,aB,n⟩=fi (decide (cH=3)) [method,target,fi (decide (cH=3)) [body]]from by unfold qZ;rw[if_pos rfl]);have hbz:=gl (decide (cH=3)) [body];obtain⟨bb,ry⟩:∃bb,bb=fi (decide (cH=3)) [body]:=⟨_,rfl⟩;have HBB:=O ry;rw[<-ry]at hbz HTI;clear ry;go_wp2_with fail
   go_region_held3 (fun U=>U.cell? ⟨w.heap.size,0,none⟩=some (.int .i64 cH)) ((refine(HC.out _ ?_).1;repeat(first|exact rj.out|refine Fr.trans ?_ mO|refine Fr.trans ?_ jC|apply Fr.alloc|apply Fr.drew))) (first|((with_reducible refine at_len 1 ?_);go_at_call 101;refine(HH.out _ [body] _ (by repeat(first|exact Ay.out|apply Fr.alloc|apply Fr.drew)) (by first|exact cT _ _ [body] (Nat.le_of_ble_eq_true rfl)|exact mT (cT _ _ [body] (Nat.le_of_ble_eq_true rfl))) (Nat.le_of_ble_eq_true rfl) (by rw[WT];omega)).mono ?_;rw[<-HBB.out];rintro e w7 ⟨rfl,jC⟩)|((with_reducible refine at_len 3 ?_);go_at_call 101;refine(HH.out _ [method,target,bb] _ (by repeat(first|exact Ay.out|refine Fr.trans ?_ jC|apply Fr.alloc|apply Fr.drew)) (by first|exact cT _ _ [method,target,bb] (Nat.le_of_ble_eq_true rfl)|exact mT (cT _ _ [method,target,bb] (Nat.le_of_ble_eq_true rfl))) (Nat.le_of_ble_eq_true rfl) (by rw[Ax];omega)).mono ?_;rintro e w8 ⟨rfl,mO⟩))
   all_goals
    have uE:=O (show Fr ay wb w8 from by repeat(first|exact rj.out|refine Fr.trans ?_ mO|refine Fr.trans ?_ jC|apply Fr.alloc|apply Fr.drew));have D4:=O (fa.trans uE.out);clear jC mO d0 d2 d4 d5;obtain⟨d0,d2,d4,d5⟩:=HC.out w8 uE.out;obtain⟨t2,D5⟩:∃t2,t2=fi (decide (cH=3)) [method,target,bb]:=⟨_,rfl⟩;have anD:t2.size<=64:=by rw[D5];exact gl _ _
    rw[<-D5];have HT:=O (HTI.out.trans D5.symm);have HR:=O HRI.out;clear D5;have anE:¬dZ.toList=[]:=by rw[hai];simp
    have SV:=O (fun(U:World) (hU:Fr ay wb U)=>And.intro (HC.out U hU).1 (And.intro (HC.out U hU).2.1 (HC.out U hU).2.2.2));clear SK;go_wp2_with fail
    go_region_held3 (fun U=>U.cell? ⟨w.heap.size,0,none⟩=some (.int .i64 cH)/\U.cell? ⟨w.heap.size,2,none⟩=some (.string bO)/\U.cell? ⟨w.heap.size,5,none⟩=some (.string dZ)) ((refine SV.out _ ?_;repeat(first|exact uE.out|refine Fr.trans ?_ mO|refine Fr.trans ?_ jC|apply Fr.alloc|apply Fr.drew))) (first|(go_at_call 47;refine(lK n _ zn (HDB.out.fr (by repeat(first|exact D4.out|refine Fr.trans ?_ jC|apply Fr.alloc|apply Fr.drew)))).mono ?_;rintro e w7 ⟨rfl,jC⟩)|(go_at_call 101;refine(HH.out _ [o1,bO,⟨(ez n).toArray⟩,aB,dZ,t2] _ (by repeat(first|exact D4.out|refine Fr.trans ?_ jC|apply Fr.alloc|apply Fr.drew)) (cT _ _ _ (Nat.le_of_ble_eq_true rfl)) (Nat.le_of_ble_eq_true rfl) (by rw[Jw];have:=oo n;omega)).mono ?_;rintro e w8 ⟨rfl,mO⟩))
    all_goals
     have se:=O (show Fr ay w w8 from Fr.trans (by repeat(first|exact D4.out|refine Fr.trans ?_ jC|apply Fr.alloc|apply Fr.drew)) mO);clear mO;go_wp2;go_ret;exact⟨by rw[HR.out,HO.out,HT.out];rfl,se.out⟩
  ·have SN:¬iD.toList=[97,117,116,104,45,105,110,116]:=fun h=>Zs (by rw[ByteArray.toList_eq]at h;exact Go.WideShapes.bytes_inj h);have hq2:(iD.toList== [97,117,116,104,45,105,110,116])=false:=by simp[SN]
   obtain⟨t2,D5⟩:∃t2,t2=t0:=⟨_,rfl⟩;rw[<-D5]at SK ⊢;have HT:=O (show qZ ⟨decide (cH=3),true,dR,bO,iD,user,pass,method,target,body,aB,n⟩=t2 by rw[D5,HT0.out];unfold qZ;rw[if_neg Zs]);clear D5;by_cases KV:iD=.empty
   ·subst KV;have anF:ByteArray.empty.toList=[]:=by decide +kernel
    have HR:=O (show js ⟨decide (cH=3),true,dR,bO,.empty,user,pass,method,target,body,aB,n⟩=fi (decide (cH=3)) [zz ⟨decide (cH=3),true,dR,bO,.empty,user,pass,method,target,body,aB,n⟩,bO,qZ ⟨decide (cH=3),true,dR,bO,.empty,user,pass,method,target,body,aB,n⟩]from by unfold js;rw[if_pos rfl]);go_wp2_with fail
    refine(HH.out _ [o1,bO,t2] _ (by repeat(first|exact Ay.out|refine Fr.trans ?_ jC|apply Fr.alloc|apply Fr.drew)) (cT _ _ [o1,bO,t2] (Nat.le_of_ble_eq_true rfl)) (Nat.le_of_ble_eq_true rfl) (by rw[Ax];omega)).mono ?_;rintro e u9⟨rfl,Up⟩;go_wp2;go_ret;exact⟨by rw[HR.out,HO.out,HT.out];rfl,Fr.trans (by repeat(first|exact Ay.out|refine Fr.trans ?_ jC|apply Fr.alloc|apply Fr.drew)) Up⟩
   ·have Uq:¬iD.toList=[]:=fun h=>KV (by rw[ByteArray.toList_eq]at h;exact Go.WideShapes.bytes_inj h);have hq4:iD.toList.isEmpty=false:=by cases hz:iD.toList with|nil=>exact absurd hz Uq|cons _ _=>rfl
    have HR:=O (show js ⟨decide (cH=3),true,dR,bO,iD,user,pass,method,target,body,aB,n⟩=fi (decide (cH=3)) [zz ⟨decide (cH=3),true,dR,bO,iD,user,pass,method,target,body,aB,n⟩,bO,⟨(ez n).toArray⟩,aB,iD,qZ ⟨decide (cH=3),true,dR,bO,iD,user,pass,method,target,body,aB,n⟩]from by unfold js;rw[if_neg KV])
    have SV:=O (fun(U:World) (hU:Fr ay wb U)=>And.intro (HC.out U hU).1 (And.intro (HC.out U hU).2.1 (HC.out U hU).2.2.2));go_wp2_with fail
    go_region_held3 (fun U=>U.cell? ⟨w.heap.size,0,none⟩=some (.int .i64 cH)/\U.cell? ⟨w.heap.size,2,none⟩=some (.string bO)/\U.cell? ⟨w.heap.size,5,none⟩=some (.string iD)) ((refine SV.out _ ?_;repeat(first|exact rj.out|refine Fr.trans ?_ mO|refine Fr.trans ?_ jC|apply Fr.alloc|apply Fr.drew))) (first|(go_at_call 47;refine(lK n _ zn (HDB.out.fr (by repeat(first|exact Ay.out|refine Fr.trans ?_ jC|apply Fr.alloc|apply Fr.drew)))).mono ?_;rintro e w7 ⟨rfl,jC⟩)|(go_at_call 101;refine(HH.out _ [o1,bO,⟨(ez n).toArray⟩,aB,iD,t2] _ (by repeat(first|exact Ay.out|refine Fr.trans ?_ jC|apply Fr.alloc|apply Fr.drew)) (cT _ _ _ (Nat.le_of_ble_eq_true rfl)) (Nat.le_of_ble_eq_true rfl) (by rw[Jw];have:=oo n;omega)).mono ?_;rintro e w8 ⟨rfl,mO⟩))
    all_goals
     have se:=O (show Fr ay w w8 from Fr.trans (by repeat(first|exact Ay.out|refine Fr.trans ?_ jC|apply Fr.alloc|apply Fr.drew)) mO);clear mO;go_wp2;go_ret;exact⟨by rw[HR.out,HO.out,HT.out];rfl,se.out⟩
def iZ(path query:ByteArray):ByteArray:=if query.size=0 then path else(path++⟨#[63]⟩)++query
end Go.Proofs.YtjdmjbdkdmbaiaaGreatDoor
