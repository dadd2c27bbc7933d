/- Lemmas for the law's walk. -/
import Derived.Test.YtjndhcngnghpiaaGreatDoorPn3
import Derived.Deep.RegionHeld3
import Derived.StillTailTactics
set_option maxRecDepth 100000
set_option maxHeartbeats 16000000
set_option linter.unusedSimpArgs false
namespace Go.Proofs.YtjndhcngnghpiaaGreatDoor
open Go.Proofs.Tryz
open Go.RowKit
variable {w w':World} {g b i fuel j:Nat} {k:IntKind} {t:TypeId} {cs:aX} {s:aj} {e:Ending}
def Df:List Int:=[3614090360,3905402710,606105819,3250441966,4118548399,1200080426,2821735955,4249261313,1770035416,2336552879,4294925233,2304563134,1804603682,4254626195,2792965006,1236535329,4129170786,3225465664,643717713,3921069994,3593408605,38016083,3634488961,3889429448,568446438,3275163606,4107603335,1163531501,2850285829,4243563512,1735328473,2368359562,4294588738,2272392833,1839030562,4259657740,2763975236,1272893353,4139469664,3200236656,681279174,3936430074,3572445317,76029189,3654602809,3873151461,530742520,3299628645,4096336452,1126891415,2878612391,4237533241,1700485571,2399980690,4293915773,2240044497,1873313359,4264355552,2734768916,1309151649,4149444226,3174756917,718787259,3951481745]
def oH:List Nat:=[7,12,17,22,5,9,14,20,4,11,16,23,6,10,15,21]
def oI(w:World)(g:Nat)(k:IntKind)(zs:List Int):Prop:=g<w.heap.size/\∀(i:Nat) z,zs[i]?=some z->w.cell? ⟨g,i,none⟩=some (.int k z)
theorem oI.fr{zs:List Int}(h:oI w g k zs)(hf:Fr aS w w'):oI w' g k zs :=
 ⟨cO h.1 hf.size,fun i z hz=>(hf.cell (p:=⟨g,i,none⟩) h.1 id).trans (h.2 i z hz)⟩
structure uj (w:World):Prop where
 s:oI w 3 .u32 Df
 t:oI w 4 .i64 (oH.map Int.ofNat)
theorem uj.fr(h:uj w)(hf:Fr aS w w'):uj w':=⟨h.s.fr hf,h.t.fr hf⟩
structure Md where
 a:Int
 b:Int
 c:Int
 d:Int
def Md.ok(s:Md):Prop:=(0<=s.a/\s.a<4294967296)/\(0<=s.b/\s.b<4294967296)/\(0<=s.c/\s.c<4294967296)/\(0<=s.d/\s.d<4294967296)
def M1(x:Int):Int:=bits .xor .u32 IntKind.u32.max x
def mdF(r:Nat)(b c d:Int):Int:=match r with
 |0=>bits .or .u32 (bits .and .u32 b c) (bits .and .u32 (M1 b) d)
 |1=>bits .or .u32 (bits .and .u32 d b) (bits .and .u32 (M1 d) c)
 |2=>bits .xor .u32 (bits .xor .u32 b c) d
 |_=>bits .xor .u32 c (bits .or .u32 b (M1 d))
def YN(r k:Nat):Nat:=match r with
 |0=>k
 |1=>(5*k+1)%16
 |2=>(3*k+5)%16
 |_=>7*k%16
def ry(X:aH)(k:Nat)(s:Md):Md :=
 ⟨s.d,(s.b+lV ((mdF (k/16) s.b s.c s.d+(s.a+Df.getD k 0+qD true (X.drop (4*YN (k/16) k))))%4294967296) (oH.getD (k/16*4+k%4) 0))%4294967296,s.b,s.c⟩
def kL(X:aH)(h:Md):Nat->Md
 |0=>h
 |k+1=>ry X k (kL X h k)
def Cm(X:aH)(h:Md):Md :=
 ⟨(h.a+(kL X h 64).a)%4294967296,(h.b+(kL X h 64).b)%4294967296,(h.c+(kL X h 64).c)%4294967296,(h.d+(kL X h 64).d)%4294967296⟩
def md0:Md:=⟨1732584193,4023233417,2562383102,271733878⟩
def xW(T:aH):Nat->Md
 |0=>md0
 |k+1=>Cm (T.drop (64*k)) (xW T k)
def Md.list(s:Md):List Int:=[s.a,s.b,s.c,s.d]
def Ki(l:aH):aH:=oG true (xW (uU true l) ((uU true l).length/64)).list
theorem AD(x:Int):0<=x%4294967296/\x%4294967296<4294967296:=⟨Int.emod_nonneg _ ag,Int.emod_lt_of_pos _ ag⟩
theorem QN{X:aH}{k:Nat}{s:Md}(h:s.ok):(ry X k s).ok:=⟨h.2.2.2,AD _,h.2.1,h.2.2.1⟩
theorem Dg{X:aH}{h:Md}(ho:h.ok):∀k,(kL X h k).ok
 |0=>ho
 |k+1=>QN (Dg ho k)
theorem M3(X:aH)(h:Md):(Cm X h).ok:=⟨AD _,AD _,AD _,AD _⟩
theorem acX:md0.ok:=by unfold Md.ok md0;decide
theorem Pw(T:aH):∀k,(xW T k).ok
 |0=>acX
 |_+1=>M3 _ _
theorem zg:∀i:Fin 16,bits .and .u64 ((oH.getD i.val 0:Nat):Int) 31=((oH.getD i.val 0:Nat):Int)/\oH.getD i.val 0<32:=dt
theorem Kj(dM:Bool)(l:aH):(uU dM l).length%64=0/\(uU dM l).length<=l.length+128:=by
 unfold uU;simp only[aN,fi,nt,List.length_cons,List.length_nil];omega
theorem kp(T:aj)(i:Nat):(T.extract i T.size).data.toList=T.data.toList.drop i:=by
 rw[Lib.extract_data,aD aR]
theorem ju(T:aj)(i:Nat):(T.extract i T.size).size=T.size-i:=by
 have h:(T.extract i T.size).data.toList.length=(T.extract i T.size).size:=rfl;rw[<-h,kp,bJ];simp
theorem Px(T:aj)(i j:Nat):(T.extract i T.size).extract j (T.extract i T.size).size=T.extract (i+j) T.size:=by
 apply Go.WideShapes.bytes_inj;rw[kp,kp,kp,ew]
theorem tJ{cur:bS}{f:Nat×Nat}(h:w.heap[b]?=some (.cells cur t f))(o:Nat)(v:Value):(w.setCell ⟨b,o,none⟩ v).heap[b]?=some (.cells (cur.setIfInBounds o v) t f):=by
 simp[World.setCell,Array.getElem?_modify,h]
def sU(w:World)(g:Nat)(h:Md):Prop:=w.heap[g]?=some (.cells #[.int .u32 h.a,.int .u32 h.b,.int .u32 h.c,.int .u32 h.d] 300 (0,0))
def agW(T:aj)(g:Nat)(w:World)(t:Value)(wr:World):Prop:=∃k:Nat,64*k<=T.size/\t=.string (T.extract (64*k) T.size)/\sU wr g (xW T.data.toList k)/\Fr aS w wr
def amM(X:aH)(h:Md)(g:Nat)(w:World)(a b c d i:Value)(wr:World):Prop :=
 ∃k:Nat,k<=64/\i=.int .i64 k/\a=.int .u32 (kL X h k).a/\b=.int .u32 (kL X h k).b/\c=.int .u32 (kL X h k).c/\d=.int .u32 (kL X h k).d/\sU wr g h/\Fr aS w wr
theorem YO(s:aj)(w:World)(hs:s.size<4398046511104)(ht:uj w) :
  aB 208 #[.string s] w fun e w'=>e=.returned (.string ⟨(Ki s.data.toList).toArray⟩)/\Fr aS w w':=by
 have gO:Fr aS w (w.alloc (.cells #[.int .u32 1732584193,.int .u32 4023233417,.int .u32 2562383102,.int .u32 271733878] 300)):=(ae aS w).alloc _;have Yj:sU (w.alloc (.cells #[.int .u32 1732584193,.int .u32 4023233417,.int .u32 2562383102,.int .u32 271733878] 300)) w.heap.size md0:=aC _ _;have HM0:=O Yj;clear Yj;go_enter func208,ntmps208;go_wp2_with fail
 refine(Pv s true _ ab).mono ?_;rintro e w1⟨rfl,dn⟩;obtain⟨T,hT⟩:∃T,T=(⟨(uU true s.data.toList).toArray⟩:aj):=⟨_,rfl⟩;rw[<-hT];have hTl:T.data.toList=uU true s.data.toList:=by rw[hT]
 have hTs:T.size=(uU true s.data.toList).length:=by rw[<-hTl];simp
 obtain⟨acZ,Uj⟩:=Kj true s.data.toList;rw[<-hTs]at acZ Uj;have M4:s.data.toList.length=s.size:=aR;rw[M4]at Uj;have Dh:=O (show Ki s.data.toList=oG true (xW T.data.toList (T.size/64)).list by unfold Ki;rw[hTl,hTs]);have HM1:=O (show sU w1 w.heap.size md0 from dn.keep HM0.o id);have lq:=O (gO.trans dn);clear hT hTl hTs HM0 gO dn M4;go_wp2
 go_loopw[4] (agW T w.heap.size w) (fun t _=>match t with| .string x=>x.size|_=>0)
 case atStart=>exact⟨0,ab,by rw[Nat.mul_zero];congr 1;apply Go.WideShapes.bytes_inj;rw[kp];rfl,HM1.o,lq.o⟩
 case round =>
  obtain⟨n,hn,rfl,hm,cL⟩:=hrel;by_cases hne:64*n<T.size
  ·have Uk:64<=(T.extract (64*n) T.size).size:=by rw[ju];omega
   have amO:(T.extract (64*n) T.size).size<17592186044416:=by rw[ju];omega
   have pV:=O (Px T (64*n) 64);have hXl:=O (kp T (64*n));have hXm:=O (ju T (64*n));generalize T.extract (64*n) T.size=X at *
   have hx:X.toList.isEmpty=false:=by
    rw[aO];cases hq:X.data.toList with
    |nil=>rw[gS.1 hq]at Uk;omega
    |cons a l=>rfl
   have TS:¬X.toList=[]:=by rw[aO];intro h;rw[gS.1 h]at Uk;omega
   have HM:=O hm;have h0:wr.cell? ⟨w.heap.size,0,none⟩=some (.int .u32 (xW T.data.toList n).a):=by unfold sU at hm;simp[World.cell?,hm]
   have h1:wr.cell? ⟨w.heap.size,1,none⟩=some (.int .u32 (xW T.data.toList n).b):=by unfold sU at hm;simp[World.cell?,hm]
   have h2:wr.cell? ⟨w.heap.size,2,none⟩=some (.int .u32 (xW T.data.toList n).c):=by unfold sU at hm;simp[World.cell?,hm]
   have h3:wr.cell? ⟨w.heap.size,3,none⟩=some (.int .u32 (xW T.data.toList n).d):=by unfold sU at hm;simp[World.cell?,hm]
   have pR:=O (show xW T.data.toList (n+1)=Cm X.data.toList (xW T.data.toList n)by rw[hXl.o];rfl);have Cn:=O (Pw T.data.toList n);generalize xW T.data.toList n=H at *
   clear hm;go_wp2;go_quiet (fail);clear h0 h1 h2 h3;go_wp2;go_loopw[5,6,7,8,27] (amM X.data.toList H w.heap.size w) (fun _ _ _ _ i _=>64-(intOf i).toNat)
   case atStart=>exact⟨0,ab,rfl,rfl,rfl,rfl,rfl,by exact HM.o,by first|exact cL|exact cL.drewN _⟩
   case round =>
    obtain⟨k,hk,rfl,rfl,rfl,rfl,rfl,hm,je⟩:=hrel;obtain⟨⟨a0,a1⟩,⟨b0,b1⟩,⟨c0,c1⟩,⟨d0,d1⟩⟩:=Dg (X:=X.data.toList) Cn.o k;have HM2:=O hm;have CE:=O (show kL X.data.toList H (k+1)=ry X.data.toList k (kL X.data.toList H k)from rfl)
    have H64:=O (show k=64->Cm X.data.toList H=⟨(H.a+(kL X.data.toList H k).a)%4294967296,(H.b+(kL X.data.toList H k).b)%4294967296,(H.c+(kL X.data.toList H k).c)%4294967296,(H.d+(kL X.data.toList H k).d)%4294967296⟩from fun h=>by subst h;rfl);generalize kL X.data.toList H k=M at *
    clear hm;by_cases Kd:k<64
    ·have at1:(k:Int)<64:=ab;obtain⟨z,hz⟩:∃z,Df[k]?=some z:=⟨_,List.getElem?_eq_getElem (by show k<64;omega)⟩;have Hn:=O ((ht.fr je).s.2 k z hz);have hzd:=O (show Df.getD k 0=z by rw[List.getD_eq_getElem?_getD,hz];rfl);obtain⟨m,hmm⟩:∃m:Nat,(k:Int)%4=(m:Int):=⟨k%4,ab⟩;have hm4:m<4:=ab;have YP:=O (show k%4=m from ab);clear hz;by_cases hr0:k<16
     ·have e1:(k:Int)/16=0:=ab;have uV:=O (show k/16=0 from ab);have hmg:=O (show YN (k/16) k=k by rw[uV.o];rfl);obtain⟨wv,EL⟩:∃wv,wv=qD true (X.extract (4*k) X.size).data.toList:=⟨_,rfl⟩;have sy:=O (fun W=>vJ (X.extract (4*k) X.size) true W (by rw[ju];omega) (by rw[ju];omega));rw[<-EL]at sy;have YQ:=O (show qD true (X.data.toList.drop (4*YN (k/16) k))=wv by rw[hmg.o,EL,kp]);clear EL;go_wp2
      have qt:IntKind.i64.wrap (4*(k:Int))=4*(k:Int):=IntWalk.i64_in _ ab;have q0:(0:Int)<=(k:Int):=ab;have q1:(0:Int)<=4*(k:Int):=ab;have q2:4*(k:Int)<=(X.size:Int):=ab;have q3:4*k<=X.size:=ab;have q4:(4*(k:Int)).toNat=4*k:=ab;have Di:=Hn.o;go_quiet ((go_at_call 238;exact Calls.quiet_of (sy.o _)));clear qt q0 q1 q2 q3 q4 Di
      obtain⟨z2,ld⟩:∃z2,oH[m]?=some z2:=⟨_,List.getElem?_eq_getElem (by show m<16;omega)⟩;have htu:=(ht.fr (je.drewN nq)).t.2 (m) (z2:Int) (by rw[List.getElem?_map,ld];rfl);have hzt:=O (show oH.getD (k/16*4+k%4) 0=z2 by rw[uV.o,YP.o,show 0*4+m=m from ab,List.getD_eq_getElem?_getD,ld];rfl)
      obtain⟨ko,M5⟩:bits .and .u64 (z2:Int) 31=(z2:Int)/\z2<32:=by have h:=zg ⟨m,ab⟩;simp only[List.getD_eq_getElem?_getD,ld,Option.getD_some]at h;exact h
      clear ld;have m0:(m:Int)<4:=ab;have SW:=O (show sU (wr.drewN nq) w.heap.size H from HM2.o);have qw:=je.drewN nq;generalize wr.drewN nq=wd at *
      go_wp2_with fail
      refine(Cl _ (z2:Int) z2 wd ab ab ko M5).mono ?_;rintro e w5⟨rfl,rfl⟩;have l_:=O (show ry X.data.toList k M=⟨M.d,(M.b+lV ((mdF 0 M.b M.c M.d+(M.a+z+wv))%4294967296) z2)%4294967296,M.b,M.c⟩by unfold ry;rw[hzd.o,hzt.o,YQ.o,uV.o]);clear htu ko;go_wp2;go_roundw
      case rel=>exact⟨k+1,ab,bg,by rw[CE.o,l_.o],by rw[CE.o,l_.o];rfl,by rw[CE.o,l_.o],by rw[CE.o,l_.o],SW.o,qw⟩
      case measure=>simp[intOf];omega
     ·by_cases yz:k<32
      ·have e1:(k:Int)/16=1:=ab;have uV:=O (show k/16=1 from ab);obtain⟨gg,Xs⟩:∃gg:Nat,gg=(5*k+1)%16:=⟨_,rfl⟩;have agZ:gg<16:=ab;have Xt:(5*(k:Int)+1)%16=(gg:Int):=ab;have hmg:=O (show YN (k/16) k=gg by rw[uV.o,Xs];rfl);obtain⟨wv,EL⟩:∃wv,wv=qD true (X.extract (4*gg) X.size).data.toList:=⟨_,rfl⟩;have sy:=O (fun W=>vJ (X.extract (4*gg) X.size) true W (by rw[ju];omega) (by rw[ju];omega));rw[<-EL]at sy
       have YQ:=O (show qD true (X.data.toList.drop (4*YN (k/16) k))=wv by rw[hmg.o,EL,kp]);clear EL Xs;go_wp2;have qt:IntKind.i64.wrap (4*(gg:Int))=4*(gg:Int):=IntWalk.i64_in _ ab;have q0:(0:Int)<=(k:Int):=ab;have q1:(0:Int)<=4*(gg:Int):=ab;have q2:4*(gg:Int)<=(X.size:Int):=ab;have q3:4*gg<=X.size:=ab;have q4:(4*(gg:Int)).toNat=4*gg:=ab;have Di:=Hn.o
       go_quiet ((go_at_call 238;exact Calls.quiet_of (sy.o _)));clear qt q0 q1 q2 q3 q4 Di;obtain⟨z2,ld⟩:∃z2,oH[4+m]?=some z2:=⟨_,List.getElem?_eq_getElem (by show 4+m<16;omega)⟩;have htu:=(ht.fr (je.drewN nq)).t.2 (4+m) (z2:Int) (by rw[List.getElem?_map,ld];rfl);have hzt:=O (show oH.getD (k/16*4+k%4) 0=z2 by rw[uV.o,YP.o,show 1*4+m=4+m from ab,List.getD_eq_getElem?_getD,ld];rfl)
       obtain⟨ko,M5⟩:bits .and .u64 (z2:Int) 31=(z2:Int)/\z2<32:=by have h:=zg ⟨4+m,ab⟩;simp only[List.getD_eq_getElem?_getD,ld,Option.getD_some]at h;exact h
       clear ld;have m0:(m:Int)<4:=ab;have SW:=O (show sU (wr.drewN nq) w.heap.size H from HM2.o);have qw:=je.drewN nq;generalize wr.drewN nq=wd at *
       go_wp2_with fail
       refine(Cl _ (z2:Int) z2 wd ab ab ko M5).mono ?_;rintro e w5⟨rfl,rfl⟩;have l_:=O (show ry X.data.toList k M=⟨M.d,(M.b+lV ((mdF 1 M.b M.c M.d+(M.a+z+wv))%4294967296) z2)%4294967296,M.b,M.c⟩by unfold ry;rw[hzd.o,hzt.o,YQ.o,uV.o]);clear htu ko;go_wp2;go_roundw
       case rel=>exact⟨k+1,ab,bg,by rw[CE.o,l_.o],by rw[CE.o,l_.o];rfl,by rw[CE.o,l_.o],by rw[CE.o,l_.o],SW.o,qw⟩
       case measure=>simp[intOf];omega
      ·by_cases ob:k<48
       ·have e1:(k:Int)/16=2:=ab;have uV:=O (show k/16=2 from ab);obtain⟨gg,Xs⟩:∃gg:Nat,gg=(3*k+5)%16:=⟨_,rfl⟩;have agZ:gg<16:=ab;have Xt:(3*(k:Int)+5)%16=(gg:Int):=ab;have hmg:=O (show YN (k/16) k=gg by rw[uV.o,Xs];rfl);obtain⟨wv,EL⟩:∃wv,wv=qD true (X.extract (4*gg) X.size).data.toList:=⟨_,rfl⟩;have sy:=O (fun W=>vJ (X.extract (4*gg) X.size) true W (by rw[ju];omega) (by rw[ju];omega));rw[<-EL]at sy
        have YQ:=O (show qD true (X.data.toList.drop (4*YN (k/16) k))=wv by rw[hmg.o,EL,kp]);clear EL Xs;go_wp2;have qt:IntKind.i64.wrap (4*(gg:Int))=4*(gg:Int):=IntWalk.i64_in _ ab;have q0:(0:Int)<=(k:Int):=ab;have q1:(0:Int)<=4*(gg:Int):=ab;have q2:4*(gg:Int)<=(X.size:Int):=ab;have q3:4*gg<=X.size:=ab;have q4:(4*(gg:Int)).toNat=4*gg:=ab;have Di:=Hn.o
        go_quiet ((go_at_call 238;exact Calls.quiet_of (sy.o _)));clear qt q0 q1 q2 q3 q4 Di;obtain⟨z2,ld⟩:∃z2,oH[8+m]?=some z2:=⟨_,List.getElem?_eq_getElem (by show 8+m<16;omega)⟩;have htu:=(ht.fr (je.drewN nq)).t.2 (8+m) (z2:Int) (by rw[List.getElem?_map,ld];rfl);have hzt:=O (show oH.getD (k/16*4+k%4) 0=z2 by rw[uV.o,YP.o,show 2*4+m=8+m from ab,List.getD_eq_getElem?_getD,ld];rfl)
        obtain⟨ko,M5⟩:bits .and .u64 (z2:Int) 31=(z2:Int)/\z2<32:=by have h:=zg ⟨8+m,ab⟩;simp only[List.getD_eq_getElem?_getD,ld,Option.getD_some]at h;exact h
        clear ld;have m0:(m:Int)<4:=ab;have SW:=O (show sU (wr.drewN nq) w.heap.size H from HM2.o);have qw:=je.drewN nq;generalize wr.drewN nq=wd at *
        go_wp2_with fail
        refine(Cl _ (z2:Int) z2 wd ab ab ko M5).mono ?_;rintro e w5⟨rfl,rfl⟩;have l_:=O (show ry X.data.toList k M=⟨M.d,(M.b+lV ((mdF 2 M.b M.c M.d+(M.a+z+wv))%4294967296) z2)%4294967296,M.b,M.c⟩by unfold ry;rw[hzd.o,hzt.o,YQ.o,uV.o]);clear htu ko;go_wp2;go_roundw
        case rel=>exact⟨k+1,ab,bg,by rw[CE.o,l_.o],by rw[CE.o,l_.o];rfl,by rw[CE.o,l_.o],by rw[CE.o,l_.o],SW.o,qw⟩
        case measure=>simp[intOf];omega
       ·have e1:(k:Int)/16=3:=ab;have uV:=O (show k/16=3 from ab);obtain⟨gg,Xs⟩:∃gg:Nat,gg=7*k%16:=⟨_,rfl⟩;have agZ:gg<16:=ab;have Xt:7*(k:Int)%16=(gg:Int):=ab;have hmg:=O (show YN (k/16) k=gg by rw[uV.o,Xs];rfl);obtain⟨wv,EL⟩:∃wv,wv=qD true (X.extract (4*gg) X.size).data.toList:=⟨_,rfl⟩;have sy:=O (fun W=>vJ (X.extract (4*gg) X.size) true W (by rw[ju];omega) (by rw[ju];omega));rw[<-EL]at sy
        have YQ:=O (show qD true (X.data.toList.drop (4*YN (k/16) k))=wv by rw[hmg.o,EL,kp]);clear EL Xs;go_wp2;have qt:IntKind.i64.wrap (4*(gg:Int))=4*(gg:Int):=IntWalk.i64_in _ ab;have q0:(0:Int)<=(k:Int):=ab;have q1:(0:Int)<=4*(gg:Int):=ab;have q2:4*(gg:Int)<=(X.size:Int):=ab;have q3:4*gg<=X.size:=ab;have q4:(4*(gg:Int)).toNat=4*gg:=ab;have Di:=Hn.o
        go_quiet ((go_at_call 238;exact Calls.quiet_of (sy.o _)));clear qt q0 q1 q2 q3 q4 Di;obtain⟨z2,ld⟩:∃z2,oH[12+m]?=some z2:=⟨_,List.getElem?_eq_getElem (by show 12+m<16;omega)⟩;have htu:=(ht.fr (je.drewN nq)).t.2 (12+m) (z2:Int) (by rw[List.getElem?_map,ld];rfl);have hzt:=O (show oH.getD (k/16*4+k%4) 0=z2 by rw[uV.o,YP.o,show 3*4+m=12+m from ab,List.getD_eq_getElem?_getD,ld];rfl)
        obtain⟨ko,M5⟩:bits .and .u64 (z2:Int) 31=(z2:Int)/\z2<32:=by have h:=zg ⟨12+m,ab⟩;simp only[List.getD_eq_getElem?_getD,ld,Option.getD_some]at h;exact h
        clear ld;have m0:(m:Int)<4:=ab;have SW:=O (show sU (wr.drewN nq) w.heap.size H from HM2.o);have qw:=je.drewN nq;generalize wr.drewN nq=wd at *
        go_wp2_with fail
        refine(Cl _ (z2:Int) z2 wd ab ab ko M5).mono ?_;rintro e w5⟨rfl,rfl⟩;have l_:=O (show ry X.data.toList k M=⟨M.d,(M.b+lV ((mdF 3 M.b M.c M.d+(M.a+z+wv))%4294967296) z2)%4294967296,M.b,M.c⟩by unfold ry;rw[hzd.o,hzt.o,YQ.o,uV.o]);clear htu ko;go_wp2;go_roundw
        case rel=>exact⟨k+1,ab,bg,by rw[CE.o,l_.o],by rw[CE.o,l_.o];rfl,by rw[CE.o,l_.o],by rw[CE.o,l_.o],SW.o,qw⟩
        case measure=>simp[intOf];omega
    ·have Ul:k=64:=ab;subst Ul;have vK:=HM2.o;have h0:wr.cell? ⟨w.heap.size,0,none⟩=some (.int .u32 H.a):=by unfold sU at vK;simp[World.cell?,vK]
     have h1:wr.cell? ⟨w.heap.size,1,none⟩=some (.int .u32 H.b):=by unfold sU at vK;simp[World.cell?,vK]
     have h2:wr.cell? ⟨w.heap.size,2,none⟩=some (.int .u32 H.c):=by unfold sU at vK;simp[World.cell?,vK]
     have h3:wr.cell? ⟨w.heap.size,3,none⟩=some (.int .u32 H.d):=by unfold sU at vK;simp[World.cell?,vK]
     have f0:wr.frozen? ⟨w.heap.size,0,none⟩=false:=by unfold sU at vK;simp[World.frozen?,vK]
     have f1:wr.frozen? ⟨w.heap.size,1,none⟩=false:=by unfold sU at vK;simp[World.frozen?,vK]
     have f2:wr.frozen? ⟨w.heap.size,2,none⟩=false:=by unfold sU at vK;simp[World.frozen?,vK]
     have f3:wr.frozen? ⟨w.heap.size,3,none⟩=false:=by unfold sU at vK;simp[World.frozen?,vK]
     clear vK;have amP:(64:Int)<=(X.size:Int):=ab;go_wp2;have Jd:wr.heap[w.heap.size]?=some (.cells #[.int .u32 H.a,.int .u32 H.b,.int .u32 H.c,.int .u32 H.d] 300 (0,0)):=HM2.o;have pW:=tJ Jd 0 (.int .u32 ((H.a+M.a)%4294967296));have ko:=tJ pW 1 (.int .u32 ((H.b+M.b)%4294967296));have sV:=tJ ko 2 (.int .u32 ((H.c+M.c)%4294967296));have tK:=tJ sV 3 (.int .u32 ((H.d+M.d)%4294967296))
     refine⟨⟨n+1,ab,?_,?_,(((je.gF (p:=⟨w.heap.size,0,none⟩) (ay _) _).gF (p:=⟨w.heap.size,1,none⟩) (ay _) _).gF (p:=⟨w.heap.size,2,none⟩) (ay _) _).gF (p:=⟨w.heap.size,3,none⟩) (ay _) _⟩,?_⟩
     ·rw[pV.o];rfl
     ·rw[pR.o,H64.o rfl];exact tK
     ·show(X.extract 64 X.size).size<X.size;rw[ju];omega
  ·have AE:64*n=T.size:=ab;have he:(T.extract (64*n) T.size)=⟨#[]⟩:=by apply Go.WideShapes.bytes_inj;rw[kp,cP bH]
   rw[he];have Um:=O (show xW T.data.toList (T.size/64)=xW T.data.toList n by rw[<-AE];congr 1;omega);have Cn:=Pw T.data.toList n;generalize xW T.data.toList n=H at *
   have HM:=O hm;have TX:=O (Bx w.heap.size H.list true wr (by show 4<=8;omega) (bj hm) (fun j x hj=>by
    unfold sU at hm
    match j,hj with
    |0,hj=>simp[Md.list]at hj;subst hj;simp[World.cell?,hm]
    |1,hj=>simp[Md.list]at hj;subst hj;simp[World.cell?,hm]
    |2,hj=>simp[Md.list]at hj;subst hj;simp[World.cell?,hm]
    |3,hj=>simp[Md.list]at hj;subst hj;simp[World.cell?,hm]
    |j+4,hj=>simp[Md.list]at hj) (fun x hx=>by
    simp only[Md.list,bB,cz,dU]at hx;obtain⟨p0,p1,p2,p3⟩:=Cn;rcases hx with rfl|rfl|rfl|rfl<;>assumption))
   clear hm Cn;go_wp2_with fail
   refine TX.o.mono ?_;rintro e w5⟨rfl,lL⟩;go_wp2;go_ret;exact⟨by rw[Dh.o,Um.o];rfl,cL.trans lL⟩
def am7(c:UInt8):Option Nat:=if 65<=c/\c<=90 then some (c.toNat-65)else if 97<=c/\c<=122 then some (c.toNat-71)else if 48<=c/\c<=57 then some (c.toNat+4)else if c=43 then some 62 else if c=47 then some 63 else none
def qv(l:aH):Nat->Nat
 |0=>0
 |j+1=>qv l j*64+(match l[j]? with|some c=>(am7 c).getD 0|none=>0)
theorem wH:∀(l:aH) (c:UInt8) (i:Nat),Lib.indexByte l c=(i:Int)->l=l.take i++c :: l.drop (i+1)/\c∉l.take i
 |[],c,i,h=>by simp[Lib.indexByte]at h
 |x :: l,c,i,h=>by
  have hge:=Lib.indexByte_ge l c;have h':(if x==c then(0:Int)else if Lib.indexByte l c== -1 then -1 else Lib.indexByte l c+1)=(i:Int):=h;by_cases hx:x=c
  ·rw[aA (by simpa using hx)]at h';obtain rfl:i=0:=ab;subst hx;exact⟨rfl,aR⟩
  ·rw[ar (by simpa using hx)]at h';by_cases h1:Lib.indexByte l c= -1
   ·rw[aA (by simpa using h1)]at h';omega
   ·rw[ar (by simpa using h1)]at h';obtain⟨j,rfl⟩:∃j,i=j+1:=⟨i-1,ab⟩;obtain⟨e1,e2⟩:=wH l c j ab;refine⟨?_,?_⟩
    ·show x :: l=x :: (l.take j++c :: l.drop (j+1));rw[<-e1]
    ·intro hc;rcases bB.1 hc with rfl|hc
     ·exact hx rfl
     ·exact e2 hc
theorem Ux{l:aH}{c:UInt8}(h:Lib.indexByte l c=(i:Int)):i<l.length:=by
 obtain⟨e,_⟩:=wH l c i h;have:=aq List.length e;simp at this;omega
def iQ(c:UInt8)(s:aj):List aj:=(dY c s.data.toList).map fun l=>⟨l.toArray⟩
theorem oJ(s:aj)(a b:Nat):s.extract a b=⟨((s.data.toList.drop a).take (b-a)).toArray⟩:=by
 have h:=Lib.extract_data s a b;have h2:(s.extract a b).data=((s.data.toList.drop a).take (b-a)).toArray:=by rw[<-h]
 calc s.extract a b=⟨(s.extract a b).data⟩:=rfl
  _=_:=by rw[h2]
theorem Ds(c:UInt8)(s:aj)(i:Nat)(h:Lib.indexByte s.data.toList c=(i:Int)):iQ c s=s.extract 0 i :: iQ c (s.extract (i+1) s.size):=by
 obtain⟨e,hn⟩:=wH _ _ _ h;unfold iQ
 conv=>lhs;rw[e,CJ c _ _ hn,cD]
 rw[oJ,oJ,aD (l:=s.data.toList.drop (i+1)) aR];rfl
theorem Bz(c:UInt8)(s:aj)(h:¬0<=Lib.indexByte s.data.toList c):iQ c s=[s]:=by
 have hn:c∉s.data.toList:=fun hc=>(G5 _ _).1 h c hc rfl;unfold iQ;rw[CK c _ hn];rfl
theorem xX(s:aj)(c:UInt8):Lib.indexB s ⟨#[c]⟩=Lib.indexByte s.data.toList c:=by
 show Lib.index s.data.toList [c]=_;exact Lib.index_one _ _
theorem BA(c:UInt8):∀(k:Nat) (s:aj),Lib.countB s ⟨#[c]⟩=k->Lib.splitB ⟨#[c]⟩ 0 k s=iQ c s
 |0,s,hk=>by
  rcases Lib.indexB_cases s ⟨#[c]⟩with wF|⟨i,wF,_⟩
  ·rw[Lib.splitB_zero,Bz c s (by rw[<-xX,wF];decide)]
  ·have:=Lib.countB_hit s ⟨#[c]⟩ i (ay _) wF;omega
 |k+1,s,hk=>by
  rcases Lib.indexB_cases s ⟨#[c]⟩with wF|⟨i,wF,_⟩
  ·rw[Lib.countB_miss s ⟨#[c]⟩ wF]at hk;omega
  ·have hct:=Lib.countB_hit s ⟨#[c]⟩ i (ay _) wF;rw[Lib.splitB_hit _ 0 k s i wF,Ds c s i (by rw[<-xX];exact wF)];have e:Lib.splitB ⟨#[c]⟩ 0 k (s.extract (i+(⟨#[c]⟩:aj).size) s.size)=iQ c (s.extract (i+1) s.size):=BA c k (s.extract (i+1) s.size) (by
    have:Lib.countB (s.extract (i+(⟨#[c]⟩:aj).size) s.size) ⟨#[c]⟩=k:=ab;exact this)
   rw[e];rfl
theorem Nc(s:aj)(c:UInt8):Lib.countB s ⟨#[c]⟩=Lib.countByte s.data.toList c:=by
 show Lib.count s.data.toList [c]=_;exact Lib.count_one _ _
theorem xY(s:aj)(c:UInt8)(w:World)(hs:s.size<4294967281) :
  aB 131 #[.string s,.string ⟨#[c]⟩] w fun e w'=>e=.returned (.slice (some ⟨w.heap.size,0,none⟩) (iQ c s).length (iQ c s).length)/\w'=w.alloc (.cells ((iQ c s).map Value.string).toArray 9):=by
 have pk:(1:Nat)<=(⟨#[c]⟩:aj).size:=ay _;have hle:=Lib.countB_le ⟨#[c]⟩ pk s.size s (ay _);have hlen:=Lib.splitB_all ⟨#[c]⟩ pk 0 _ s rfl;have ql:Lib.splitB ⟨#[c]⟩ 0 (Lib.countB s ⟨#[c]⟩) s=iQ c s:=BA c _ s rfl;have k:aB 185 #[.string s,.string ⟨#[c]⟩,.int .i64 (0:Nat),.int .i64 (-1)] w fun e w' =>
   e=.returned (.slice (some ⟨w.heap.size,0,none⟩) (Lib.splitB ⟨#[c]⟩ 0 (Lib.countB s ⟨#[c]⟩+1-1) s).length (Lib.countB s ⟨#[c]⟩+1))/\w'=w.alloc (.cells (Lib.cellsOf (Lib.splitB ⟨#[c]⟩ 0 (Lib.countB s ⟨#[c]⟩+1-1) s) (Lib.countB s ⟨#[c]⟩+1)) 9) :=
  Any.strings_genSplit_core Ya af s ⟨#[c]⟩ 0 (-1) (Lib.countB s ⟨#[c]⟩+1) w hs pk (aQ _)
   (fun x cc _=>(Any.strings_Index_one X6 x c _).mono fun e w' ⟨he,hw⟩=>⟨by rw[he,xX],hw⟩)
   ((Any.strings_Count_one X9 s c w).mono fun e w' ⟨he,hw⟩=>⟨by rw[he,Nc],hw⟩)
   ag ag (by rw[aA ag];omega)
 rw[Nat.add_sub_cancel,hlen]at k;have e2:Lib.cellsOf (Lib.splitB ⟨#[c]⟩ 0 (Lib.countB s ⟨#[c]⟩) s) (Lib.countB s ⟨#[c]⟩+1)=((Lib.splitB ⟨#[c]⟩ 0 (Lib.countB s ⟨#[c]⟩) s).map Value.string).toArray:=by rw[<-hlen];exact Lib.cellsOf_full _
 rw[e2, <-hlen,ql]at k;go_enter func131,ntmps131;go_wp2_with fail
 refine k.mono ?_;rintro e w1⟨rfl,rfl⟩;go_wp2;go_ret;exact⟨rfl,rfl⟩
def within(path p:aj):Bool:=Lib.hasPrefix path.data.toList p.data.toList
theorem Dv(path p:aj)(w:World) :
  aB 203 #[.string path,.string p] w fun e w'=>e=.returned (.bool (within path p))/\w=w':=by
 go_enter func203,ntmps203;go_wp2_with fail
 refine(strings_HasPrefix path p w).mono ?_;rintro e w'⟨rfl,rfl⟩;go_wp2;go_ret;exact⟨rfl,rfl⟩
def rE(path:aj)(ps:List aj)(n:Int):Int:=ps.foldl (fun n p=>if within path p then max n (p.size:Int)else n) n
def uq(g:gq)(gp:Bool)(ps:List aj)(o:gq)(proxy:Bool)(path:aj):Int:=if g.kV o&&gp==proxy then rE path ps (-1)else -1
theorem Nl(path:aj)(ps:List aj)(p:aj)(n:Int):rE path (ps++[p]) n=if within path p then max (rE path ps n) (p.size:Int)else rE path ps n:=by simp[rE]
def UL(path:aj)(ps:List aj)(n i:Value):Prop:=∃k:Nat,k<=ps.length/\i=.int .i64 k/\n=.int .i64 (rE path (ps.take k) (-1))
theorem Q9(g:aP Value)(o:gq)(proxy:Bool)(path:aj)(ps:List aj)(w:World)(hp:fM w g.paths ps) :
  aB 155 #[.agg g.cells.toArray,.agg o.cells.toArray,.bool proxy,.string path] w fun e w'=>e=.returned (.int .i64 (uq g.o g.proxy ps o proxy path))/\Fr aS w w':=by
 have hne:=Bn g.o o;unfold aP.cells gq.cells;obtain⟨av,cv,hv⟩:=hp.form;rw[hv]at hp ⊢;clear hv;cases e1:g.o.kV o
 ·have HR:=O (show uq g.o g.proxy ps o proxy path= -1 by unfold uq;rw[e1];rfl);go_enter func155,ntmps155;go_wp2;go_ret;exact⟨by rw[HR.o];rfl,((ae _ _).alloc _).alloc _⟩
 ·cases e2:g.proxy==proxy
  ·have HR:=O (show uq g.o g.proxy ps o proxy path= -1 by unfold uq;rw[e1,e2];rfl);have e2':(g.proxy !=proxy)=true:=by rw[bne,e2];rfl
   go_enter func155,ntmps155;go_wp2;go_ret;exact⟨by rw[HR.o];rfl,((ae _ _).alloc _).alloc _⟩
  ·have HR:=O (show uq g.o g.proxy ps o proxy path=rE path ps (-1)by unfold uq;rw[e1,e2];rfl);have e2':(g.proxy !=proxy)=false:=by rw[bne,e2];rfl
   go_enter func155,ntmps155;go_wp2;have hf:Fr aS w _:=((ae aS w).alloc (.cells #[.bool g.o.aE,.string g.o.host,.int .i64 g.o.port,.bool g.proxy,.string g.user,.string g.pass,.int .i64 g.a.scheme,.string g.a.aK,.string g.a.bq,.string g.a.cy,.bool g.a.cA,.string g.a.eF,.bool g.a.cN,g.a.dom,.int .i64 g.count,.slice av ps.length cv] 133)).alloc (.cells #[.bool o.aE,.string o.host,.int .i64 o.port] 24)
   have CS:=hp.fG hf;generalize (w.alloc _).alloc _=W at hf CS;clear hp hne e1 e2 e2'
   go_loop [9,26] (UL path ps) (fun _ i=>ps.length-(intOf i).toNat)
   case atStart=>exact⟨0,aQ _,rfl,rfl⟩
   case round =>
    obtain⟨k,hk,rfl,rfl⟩:=hrel;by_cases fk:k<ps.length
    ·rcases CS with ⟨_,_,_,e,_⟩|⟨bk,of,c,dn,h1,h2,h3,h4⟩
     ·rw[e]at fk;exact absurd fk (cq _)
     ·cases dn;unfold maxLen at h2;have dP:=O (List.getElem?_eq_getElem fk);have hc:=h4 k _ dP.o;generalize ps[k]=x at dP hc;have I9:=O (show rE path (ps.take (k+1)) (-1)=if within path x then max (rE path (ps.take k) (-1)) (x.size:Int)else rE path (ps.take k) (-1)by rw[dW dP.o,Nl]);clear h4;generalize rE path (ps.take k) (-1)=n at *
      cases hw:within path x
      ·have adh:=O (show rE path (ps.take (k+1)) (-1)=n by rw[I9.o,hw];rfl);go_wp2_with fail
       refine(Dv path x W).mono ?_;rintro e w1⟨rfl,rfl⟩;rw[hw];go_wp2
       go_round
       case rel=>exact⟨k+1,ab,bg,by rw[adh.o]⟩
       case measure=>simp[intOf];omega
      ·have adh:=O (show rE path (ps.take (k+1)) (-1)=max n (x.size:Int)by rw[I9.o,hw];rfl);go_wp2_with fail
       refine(Dv path x W).mono ?_;rintro e w1⟨rfl,rfl⟩;rw[hw];go_wp2
       go_round
       case rel=>exact⟨k+1,ab,bg,by rw[adh.o]⟩
       case measure=>simp[intOf];omega
    ·have fe:=O (show rE path (ps.take k) (-1)=rE path ps (-1)by rw[aD ab]);go_wp2;go_ret;exact⟨by rw[HR.o,fe.o];rfl,hf⟩
def gL(S:dB)(w:World)(g:Nat)(cap:bS)(p:aX->Bool)(xs:cY):Prop :=
 ∀x,x∈xs->∀u,Fr S w u->aB g (#[.agg x.toArray]++cap) u fun e u'=>e=.returned (.bool (p x))/\Fr aS u u'
theorem gL.none{S:dB}{cap:bS}{p:aX->Bool}{xs:cY}(h:gL S w g cap p xs):gL aS w g cap p xs :=
 fun x hx u hu=>h x hx u (hu.mono (fun _ _ h=>absurd h id))
theorem jv{P:Program}(w:World)(t e ty:TypeId)(zs:bS)(ht:P.underlying t=some (.slice e))(hv:∀w,(zeroValue e).run P w=.ok (.agg zs) w)(hs:0<zs.size)(h1:∀v∈zs.toList,v.oneCell'=true)(b o n c:Nat)(hn:0<n)
  (hc:w.there b o (n*zs.size)) :
  (Builtin.clear_ #[t] ty #[.slice (some ⟨b,o,none⟩) n c]).run P w=.ok (.tuple #[]) (w.setCells b o (Builtin.zeroCells zs n).toList):=by
 have hl:(Builtin.zeroCells zs n).toList.length=n*zs.size:=by simp[Builtin.zeroCells]
 have jq:=run_storeCells_cells (P:=P) b o (Builtin.zeroCells zs n).toList 0 w (by rw[hl];intro j hj;exact(hc j hj).1) (by rw[hl];intro j hj;exact(hc j hj).2) (by
  intro v rW;rw[Builtin.zeroCells,Array.mem_toList_iff,Array.mem_map]at rW;obtain⟨i,_,rfl⟩:=rW;have hm:=Nat.mod_lt i hs;rw[getElem!_pos zs _ hm];exact h1 _ aR)
 simp only[Nat.add_zero]at jq;obtain⟨m,rfl⟩:∃m,n=m+1:=⟨n-1,ab⟩;have MB:(Value.agg zs).cells=zs:=rfl;simp[Builtin.clear_,run_underlying ht,hv,MB,jq]
def tP:gq:=⟨true,⟨#[97,46,116,101,115,116]⟩,443⟩
theorem zI(w:World):aB 21 #[] w fun e w'=>e=.returned (.agg tP.cells.toArray)/\Fr aS w w':=by
 go_enter func21,ntmps21;go_wp2;refine aU (bu bC _ _ w.heap.size 24 #[.bool true,.string ⟨#[97,46,116,101,115,116]⟩,.int .i64 443] (0,0) _ rfl (aC _ _) underlying24 rfl af) rfl ?_;exact⟨rfl,(ae _ _).alloc _⟩
open Go.ChangeShapes Go.WideShapes Go.ChangeAt Go.RowKit Go.Deep
section
variable {H : Type} {enc : TypeId × Value → H} {P : Program} {W : World}
theorem xB{e:TypeId}:∀ {l:List (DataW H)} {d:DataW H},d∈l->∀n∈d.weights P e,n∈DataW.weightsAll P e l
 |d' :: r,d,hd,n,hn=>by
  simp only[DataW.weightsAll,bQ];rcases bB.1 hd with rfl|h
  ·exact Or.inl hn
  ·exact Or.inr (xB h n hn)
def oV(P:Program)(t:TypeId)(d:DataW H):Prop:=∀n∈d.weights P t,n<=reachBytes
theorem nS{fs:Array Field}{x:DataW H×List MemPlace}(ht:P.underlying t=some (.struct fs))(h:DataW.trod enc P W 0 (fun _=>true) true fuel t cs=some x) :
  cs.length=P.cellsOf t/\∃n,∀(i:Nat) (t':TypeId) (o k:Nat),fs[i]?.map (fun f=>(f.type,f.offset))=some (t',o)->P.cellsOf t'=k->∃y,DataW.trod enc P W 0 (fun _=>true) true n t' ((cs.drop o).take k)=some y/\(oV P t x.1->oV P t' y.1):=by
 obtain⟨xs,n,_,rfl,hl,om,hf⟩:=DataW.trod_struct ht h;refine⟨hl,n,fun i t' o k he hk=>?_⟩;obtain⟨f,hi,e⟩:=Option.map_eq_some_iff.1 he;injection e with e1 e2
 subst e1 e2 hk;have tV:i<fs.size:=(Array.getElem?_eq_some_iff.1 hi).1;refine⟨xs[i],by rw[hf i f hi];exact List.getElem?_eq_getElem _,fun hL m hm=>hL m ?_⟩;simp only[DataW.weights,ht];refine DataW.weights_mem_each (j:=i) (t:=f.type) (d:=xs[i].1) ?_ ?_ m hm
 ·rw[List.getElem?_map,Array.getElem?_toList,hi];rfl
 ·rw[List.getElem?_map,List.getElem?_eq_getElem ab];rfl
theorem nG{x:DataW H×List MemPlace}(ht:P.underlying t=some .bool)(h:DataW.trod enc P W 0 (fun _=>true) true fuel t cs=some x):∃b,cs=[.bool b]:=by
 obtain⟨b,e,_⟩:=DataW.trod_bool ht h;exact⟨b,e⟩
theorem ku{x:DataW H×List MemPlace}(ht:P.underlying t=some (.int k))(h:DataW.trod enc P W 0 (fun _=>true) true fuel t cs=some x):∃n,cs=[.int k n]/\(Lit.int k n).wf=true:=by
 obtain⟨b,e,_,hw⟩:=DataW.trod_int ht h;exact⟨b,e,hw⟩
theorem fo{x:DataW H×List MemPlace}(ht:P.underlying t=some .string)(h:DataW.trod enc P W 0 (fun _=>true) true fuel t cs=some x) :
  ∃s:aj,cs=[.string s]/\(oV P t x.1->s.size<=reachBytes):=by
 obtain⟨s,e,hx,_⟩:=DataW.trod_string ht h;refine⟨s,e,fun hL=>?_⟩;have:=hL s.data.toList.length (by rw[hx];simp[DataW.weights]);simpa using this
end
variable {H : Type} {enc : TypeId × Value → H} {W : World}
theorem uH:prog.cellsOf 4=1:=af
theorem pJ:prog.cellsOf 3=1:=af
theorem iJ:prog.cellsOf 9=1:=af
theorem Bd:prog.cellsOf 24=3:=af
def gq.LY(o:gq):Prop:=o.host.size<=reachBytes
theorem ap5{α:Type}{l:List α}(h:l.length=3):∃a b c,l=[a,b,c]:=by
 match l,h with
 |[a,b,c],_=>exact⟨a,b,c,rfl⟩
theorem aj7{α:Type}{l:List α}(h:l.length=2):∃a b,l=[a,b]:=by
 match l,h with
 |[a,b],_=>exact⟨a,b,rfl⟩
theorem LZ{x:DataW H×List MemPlace}(h:DataW.trod enc prog W 0 (fun _=>true) true fuel 24 cs=some x) :
  ∃o:gq,cs=o.cells/\(Lit.int .i64 o.port).wf=true/\(oV prog 24 x.1->o.LY):=by
 obtain⟨hl,n,hf⟩:=nS underlying24 h;rw[Bd]at hl;obtain⟨c0,c1,c2,rfl⟩:=ap5 hl;obtain⟨y0,h0,l0⟩:=hf 0 4 0 _ rfl uH;obtain⟨y1,h1,l1⟩:=hf 1 9 1 _ rfl iJ;obtain⟨y2,h2,l2⟩:=hf 2 3 2 _ rfl pJ;simp only[List.drop,List.take]at h0 h1 h2;obtain⟨b0,e0⟩:=nG underlying4 h0;obtain⟨b1,e1,w1⟩:=fo underlying9 h1;obtain⟨b2,e2,w2⟩:=ku underlying3 h2;simp at e0 e1 e2;subst e0 e1 e2
 exact⟨⟨b0,b1,b2⟩,rfl,w2,fun hL=>w1 (l1 hL)⟩
theorem L0{P:Program}{ts:List TypeId}{ds:List (DataW H)}(yx:(DataW.weightsEach P ts ds).all (· <=reachBytes)=true){d:DataW H}(ht:ts[j]?=some t)(hd:ds[j]?=some d):oV P t d:=fun n hn=>by
 have:=gu.1 yx n (DataW.weights_mem_each ht hd n hn);simpa using this
theorem vq{p:UInt8->Bool}{t:aH}(ht:∀c,t.head?=some c->p c=false):t.dropWhile p=t:=by
 cases t with
 |nil=>rfl
 |cons c t=>rw[List.dropWhile_cons_of_neg (by simp[ht c rfl])]
theorem jm.isOk{ws:List (aH)}(h:jm s w e w')(hl:gU s.data.toList=.ok ws)(hn:ws.length<=40) :
  ∃v,e=.returned (.tuple #[v,.nilIface])/\Strs w.heap.size w' v (dQ ws)/\Fr aS w w':=by
 obtain⟨v,er,he,hf,hm⟩:=h;rw[hl]at hm;have G3:if 40<ws.length then v=.slice none 0 0/\Fi w' er (some (4,none))else Strs w.heap.size w' v (dQ ws)/\er=.nilIface:=hm
 rw[ar (show¬40<ws.length from ab)]at G3;obtain⟨hv,hr⟩:=G3;exact⟨v,by rw[he,hr],hv,hf⟩
theorem g_.isOk{a:aH}(h:g_ b s i w e w')(hq:gJ s.data.toList i=Option.some (a,j)) :
  e=.returned (.tuple #[.string ⟨a.toArray⟩,.bool true])/\dw w' b s j/\Fr (one b) w w':=by
 obtain⟨he,hc,hf⟩:=h;rw[hq]at he;have h1:nI s.data.toList i=a:=by simp[nI,hq]
 have h2:px s.data.toList i=j:=by simp[px,hq]
 rw[h1]at he;rw[h2]at hc;exact⟨he,hc,hf⟩
theorem g_.isNone(h:g_ b s i w e w')(hq:gJ s.data.toList i=Option.none) :
  e=.returned (.tuple #[.string ⟨#[]⟩,.bool false])/\dw w' b s i/\Fr (one b) w w':=by
 obtain⟨he,hc,hf⟩:=h;rw[hq]at he;have h1:nI s.data.toList i=[]:=by simp[nI,hq]
 have h2:px s.data.toList i=i:=by simp[px,hq]
 rw[h1]at he;rw[h2]at hc;exact⟨he,hc,hf⟩
def CO:aH:=[34,40,41,58,60,62,63,64,91,92,93,123,125]
def jX(c:UInt8):Bool:=(decide (c.toNat<32)&&!decide (c.toNat=9))||decide (c.toNat=127)||decide (0<=Lib.indexByte CO c)
theorem MN(c:UInt8)(w:World) :
  aB 218 #[.int .u8 (c.toNat:Int)] w fun e w'=>e=.returned (.bool (jX c))/\w'=w:=by
 by_cases h1:c.toNat<32/\¬c.toNat=9
 ·obtain⟨h1,h2⟩:=h1;have hb:=O (show jX c=true by unfold jX;rw[bL h1,bD h2];rfl);have i1:(c.toNat:Int)<32:=ab;have i2:¬(c.toNat:Int)=9:=ab;go_enter func218,ntmps218;go_wp2;go_ret;exact⟨fy hb.o.symm,rfl⟩
 ·by_cases h3:c.toNat=127
  ·have hb:=O (show jX c=true by unfold jX;rw[bL h3];simp);have i1:¬(c.toNat:Int)<32:=ab;have i3:(c.toNat:Int)=127:=ab;go_enter func218,ntmps218;go_wp2;go_ret;exact⟨fy hb.o.symm,rfl⟩
  ·have hb:=O (show jX c=decide (0<=Lib.indexByte CO c)by
    unfold jX;rw[bD h3];by_cases h4:c.toNat<32
    ·have h9:c.toNat=9:=ab;rw[bL h4,bL h9];rfl
    ·rw[bD h4];rfl)
   have HI:=O (show aB 201 #[.string ⟨#[34,40,41,58,60,62,63,64,91,92,93,123,125]⟩,.int .u8 (c.toNat:Int)] w fun e w'=>e=.returned (.int .i64 (Lib.indexByte CO c))/\w'=w from
    (strings_IndexByte ⟨#[34,40,41,58,60,62,63,64,91,92,93,123,125]⟩ c.toNat w).mono fun e w' ⟨he,hw⟩=>⟨by
     have hc:((c.toNat:Int).toNat.toUInt8)=c:=aR;rw[hc]at he;rw[he];rfl,hw⟩)
   by_cases h4:c.toNat<32
   ·have i1:(c.toNat:Int)<32:=ab;have i2:(c.toNat:Int)=9:=ab;have hi9:=HI.o;rw[i2]at hi9;have HI9:=O hi9;clear hi9;have i3:((c.toNat:Int)==127)=false:=by rw[aL];omega
    go_enter func218,ntmps218;go_wp2_with fail
    refine HI9.o.mono ?_;rintro e u⟨rfl,rfl⟩;go_wp2;go_ret
    first|exact⟨fy hb.o.symm,rfl⟩|exact⟨fy (show(((c.toNat:Int)==127)||decide (0<=Lib.indexByte CO c))=jX c by rw[i3,hb.o];rfl),rfl⟩
   ·have i1:¬(c.toNat:Int)<32:=ab;have i2:¬(c.toNat:Int)=127:=ab;have i3:((c.toNat:Int)==127)=false:=by rw[aL];exact i2
    go_enter func218,ntmps218;go_wp2_with fail
    refine HI.o.mono ?_;rintro e u⟨rfl,rfl⟩;go_wp2;go_ret
    first|exact⟨fy hb.o.symm,rfl⟩|exact⟨fy (show(((c.toNat:Int)==127)||decide (0<=Lib.indexByte CO c))=jX c by rw[i3,hb.o];rfl),rfl⟩
def sq:aH:=[32,42,44,45,46,59,61]
def qC(c:UInt8):Bool:=ov c||decide (0<=Lib.indexByte sq c)
def vw(s:aj):Bool:=s.data.toList.all qC
def agz(s:aj)(w:World)(i:Value)(wr:World):Prop:=∃k:Nat,k<=s.size/\i=.int .i64 k/\(s.data.toList.take k).all qC=true/\Fr aS w wr
theorem yT(s:aj)(w:World)(hs:s.size<100000) :
  aB 219 #[.string s] w fun e w'=>e=.returned (.bool (vw s))/\Fr aS w w':=by
 go_enter func219,ntmps219;go_wp2;go_loopw[7] (agz s w) (fun i _=>s.size-(intOf i).toNat)
 case atStart=>exact⟨0,ab,rfl,rfl,ae _ _⟩
 case round =>
  obtain⟨k,hk,rfl,iL,cL⟩:=hrel;by_cases fk:k<s.size
  ·have o_:(k:Int)<(s.size:Int):=ab;have qM:=byte_at s k fk;have HI:=O (show aB 201 #[.string ⟨#[32,42,44,45,46,59,61]⟩,.int .u8 (s[k].toNat:Int)] wr fun e w'=>e=.returned (.int .i64 (Lib.indexByte sq s[k]))/\w'=wr from
    (strings_IndexByte ⟨#[32,42,44,45,46,59,61]⟩ s[k].toNat wr).mono fun e w' ⟨he,hw⟩=>⟨by
     have hc:((s[k].toNat:Int).toNat.toUInt8)=s[k]:=aR;rw[hc]at he;rw[he];rfl,hw⟩)
   have MO:=O (show qC s[k]=true->(s.data.toList.take (k+1)).all qC=true from fun h=>by rw[cC,qM,jP,iL];simp[h]);have HNO:=O (show qC s[k]=false->vw s=false from fun h=>by unfold vw;rw[iZ];exact⟨s[k],cj qM,by simp[h]⟩);have tV:=s[k].toNat_lt;by_cases g0:s[k].toNat<=47
   ·have q1:(s[k].toNat:Int)<48:=ab;have q2:¬57<(s[k].toNat:Int):=ab;have q3:(s[k].toNat:Int)<97:=ab;have q4:¬122<(s[k].toNat:Int):=ab;have q5:(s[k].toNat:Int)<65:=ab;have q6:¬90<(s[k].toNat:Int):=ab;have BS:ov s[k]=false:=by unfold ov;simp;omega
    have Ax:=O BS;clear BS qM iL;go_wp2_with fail
    refine HI.o.mono ?_;rintro e u⟨rfl,rfl⟩;by_cases wF:0<=Lib.indexByte sq s[k]
    ·have MP:¬Lib.indexByte sq s[k]<0:=ab;have HY:=O (MO.o (by unfold qC;rw[Ax.o,bL wF];rfl));go_wp2;go_roundw
     case rel=>exact⟨k+1,ab,bg,HY.o,cL⟩
     case measure=>simp[intOf];omega
    ·have MP:Lib.indexByte sq s[k]<0:=ab;have HN:=O (HNO.o (by unfold qC;rw[Ax.o,bD wF];rfl));go_wp2;go_ret;exact⟨by rw[HN.o];rfl,cL⟩
   ·skip
    by_cases g1:s[k].toNat<=57
    ·have q1:¬(s[k].toNat:Int)<48:=ab;have q2:¬57<(s[k].toNat:Int):=ab;have q3:(s[k].toNat:Int)<97:=ab;have q4:¬122<(s[k].toNat:Int):=ab;have q5:(s[k].toNat:Int)<65:=ab;have q6:¬90<(s[k].toNat:Int):=ab;have hy:=MO.o (by unfold qC ov;simp;omega);have HY:=O hy;clear hy iL qM;go_wp2;go_roundw
     case rel=>exact⟨k+1,ab,bg,HY.o,cL⟩
     case measure=>simp[intOf];omega
    ·skip
     by_cases g2:s[k].toNat<=64
     ·have q1:¬(s[k].toNat:Int)<48:=ab;have q2:57<(s[k].toNat:Int):=ab;have q3:(s[k].toNat:Int)<97:=ab;have q4:¬122<(s[k].toNat:Int):=ab;have q5:(s[k].toNat:Int)<65:=ab;have q6:¬90<(s[k].toNat:Int):=ab;have BS:ov s[k]=false:=by unfold ov;simp;omega
      have Ax:=O BS;clear BS qM iL;go_wp2_with fail
      refine HI.o.mono ?_;rintro e u⟨rfl,rfl⟩;by_cases wF:0<=Lib.indexByte sq s[k]
      ·have MP:¬Lib.indexByte sq s[k]<0:=ab;have HY:=O (MO.o (by unfold qC;rw[Ax.o,bL wF];rfl));go_wp2;go_roundw
       case rel=>exact⟨k+1,ab,bg,HY.o,cL⟩
       case measure=>simp[intOf];omega
      ·have MP:Lib.indexByte sq s[k]<0:=ab;have HN:=O (HNO.o (by unfold qC;rw[Ax.o,bD wF];rfl));go_wp2;go_ret;exact⟨by rw[HN.o];rfl,cL⟩
     ·skip
      by_cases g3:s[k].toNat<=90
      ·have q1:¬(s[k].toNat:Int)<48:=ab;have q2:57<(s[k].toNat:Int):=ab;have q3:(s[k].toNat:Int)<97:=ab;have q4:¬122<(s[k].toNat:Int):=ab;have q5:¬(s[k].toNat:Int)<65:=ab;have q6:¬90<(s[k].toNat:Int):=ab;have hy:=MO.o (by unfold qC ov;simp;omega);have HY:=O hy;clear hy iL qM;go_wp2;go_roundw
       case rel=>exact⟨k+1,ab,bg,HY.o,cL⟩
       case measure=>simp[intOf];omega
      ·skip
       by_cases g4:s[k].toNat<=96
       ·have q1:¬(s[k].toNat:Int)<48:=ab;have q2:57<(s[k].toNat:Int):=ab;have q3:(s[k].toNat:Int)<97:=ab;have q4:¬122<(s[k].toNat:Int):=ab;have q5:¬(s[k].toNat:Int)<65:=ab;have q6:90<(s[k].toNat:Int):=ab;have BS:ov s[k]=false:=by unfold ov;simp;omega
        have Ax:=O BS;clear BS qM iL;go_wp2_with fail
        refine HI.o.mono ?_;rintro e u⟨rfl,rfl⟩;by_cases wF:0<=Lib.indexByte sq s[k]
        ·have MP:¬Lib.indexByte sq s[k]<0:=ab;have HY:=O (MO.o (by unfold qC;rw[Ax.o,bL wF];rfl));go_wp2;go_roundw
         case rel=>exact⟨k+1,ab,bg,HY.o,cL⟩
         case measure=>simp[intOf];omega
        ·have MP:Lib.indexByte sq s[k]<0:=ab;have HN:=O (HNO.o (by unfold qC;rw[Ax.o,bD wF];rfl));go_wp2;go_ret;exact⟨by rw[HN.o];rfl,cL⟩
       ·skip
        by_cases g5:s[k].toNat<=122
        ·have q1:¬(s[k].toNat:Int)<48:=ab;have q2:57<(s[k].toNat:Int):=ab;have q3:¬(s[k].toNat:Int)<97:=ab;have q4:¬122<(s[k].toNat:Int):=ab;have q5:¬(s[k].toNat:Int)<65:=ab;have q6:90<(s[k].toNat:Int):=ab;have hy:=MO.o (by unfold qC ov;simp;omega);have HY:=O hy;clear hy iL qM;go_wp2;go_roundw
         case rel=>exact⟨k+1,ab,bg,HY.o,cL⟩
         case measure=>simp[intOf];omega
        ·skip
         have q1:¬(s[k].toNat:Int)<48:=ab;have q2:57<(s[k].toNat:Int):=ab;have q3:¬(s[k].toNat:Int)<97:=ab;have q4:122<(s[k].toNat:Int):=ab;have q5:¬(s[k].toNat:Int)<65:=ab;have q6:90<(s[k].toNat:Int):=ab;have BS:ov s[k]=false:=by unfold ov;simp;omega
         have Ax:=O BS;clear BS qM iL;go_wp2_with fail
         refine HI.o.mono ?_;rintro e u⟨rfl,rfl⟩;by_cases wF:0<=Lib.indexByte sq s[k]
         ·have MP:¬Lib.indexByte sq s[k]<0:=ab;have HY:=O (MO.o (by unfold qC;rw[Ax.o,bL wF];rfl));go_wp2;go_roundw
          case rel=>exact⟨k+1,ab,bg,HY.o,cL⟩
          case measure=>simp[intOf];omega
         ·have MP:Lib.indexByte sq s[k]<0:=ab;have HN:=O (HNO.o (by unfold qC;rw[Ax.o,bD wF];rfl));go_wp2;go_ret;exact⟨by rw[HN.o];rfl,cL⟩
  ·have o_:¬(k:Int)<(s.size:Int):=ab;have fe:=O (show vw s=true by
    unfold vw;rw[aD bH]at iL;exact iL)
   clear iL;go_wp2;go_ret;exact⟨by rw[fe.o];rfl,cL⟩
def Dj:List Int:=[1116352408,1899447441,3049323471,3921009573,961987163,1508970993,2453635748,2870763221,3624381080,310598401,607225278,1426881987,1925078388,2162078206,2614888103,3248222580,3835390401,4022224774,264347078,604807628,770255983,1249150122,1555081692,1996064986,2554220882,2821834349,2952996808,3210313671,3336571891,3584528711,113926993,338241895,666307205,773529912,1294757372,1396182291,1695183700,1986661051,2177026350,2456956037,2730485921,2820302411,3259730800,3345764771,3516065817,3600352804,4094571909,275423344,430227734,506948616,659060556,883997877,958139571,1322822218,1537002063,1747873779,1955562222,2024104815,2227730452,2361852424,2428436474,2756734187,3204031479,3329325298]
def Un:List Int:=[1779033703,3144134277,1013904242,2773480762,1359893119,2600822924,528734635,1541459225]
structure uk (w:World):Prop where
 r:oI w 2 .u32 Dj
 b:oI w 1 .u32 Un
theorem uk.fr(h:uk w)(hf:Fr aS w w'):uk w':=⟨h.r.fr hf,h.b.fr hf⟩
def Kk(a b c:Int):Int:=bits .xor .u32 (bits .xor .u32 a b) c
def ac3(x:Int):Int:=Kk (lV x 25) (lV x 14) (x/8)
def ac4(y:Int):Int:=Kk (lV y 15) (lV y 13) (y/1024)
def FK(X:aH)(l:List Int)(i:Nat):Int:=if i<16 then qD false (X.drop (4*i))else(l.getD (i-16) 0+l.getD (i-7) 0+ac3 (l.getD (i-15) 0)+ac4 (l.getD (i-2) 0))%4294967296
def FM(X:aH)(l:List Int)(i:Nat):List Int:=l++[FK X l i]
def Xu(X:aH):Nat->List Int
 |0=>[]
 |i+1=>FM X (Xu X i) i
theorem Py(X:aH):∀i,(Xu X i).length=i
 |0=>rfl
 |i+1=>by rw[Xu,FM,aN,Py X i];rfl
theorem rb(x:Int)(w:World)(j n:Nat)(h:(decide (0<j/\j<32/\n<32/\bits .and .u64 (-(j:Int)+18446744073709551616) 31=(n:Int)))=true) :
  aB 239 #[.int .u32 x,.int .i64 (-(j:Int))] w fun e w'=>e=.returned (.int .u32 (lV x n))/\w'=w:=by
 have h:=of_decide_eq_true h;exact(YL x (-(j:Int)) n w ab ab h.2.2.2 h.2.2.1).mono fun _ _ ⟨he,hw⟩=>⟨he,hw.symm⟩
theorem amQ(x:Int)(w:World):aB 239 #[.int .u32 x,.int .i64 (-7)] w fun e w'=>e=.returned (.int .u32 (lV x 25))/\w'=w:=rb x w 7 25 dt
theorem ag0(x:Int)(w:World):aB 239 #[.int .u32 x,.int .i64 (-18)] w fun e w'=>e=.returned (.int .u32 (lV x 14))/\w'=w:=rb x w 18 14 dt
theorem ag1(x:Int)(w:World):aB 239 #[.int .u32 x,.int .i64 (-17)] w fun e w'=>e=.returned (.int .u32 (lV x 15))/\w'=w:=rb x w 17 15 dt
theorem ag2(x:Int)(w:World):aB 239 #[.int .u32 x,.int .i64 (-19)] w fun e w'=>e=.returned (.int .u32 (lV x 13))/\w'=w:=rb x w 19 13 dt
theorem amR(x:Int)(w:World):aB 239 #[.int .u32 x,.int .i64 (-6)] w fun e w'=>e=.returned (.int .u32 (lV x 26))/\w'=w:=rb x w 6 26 dt
theorem ag3(x:Int)(w:World):aB 239 #[.int .u32 x,.int .i64 (-11)] w fun e w'=>e=.returned (.int .u32 (lV x 21))/\w'=w:=rb x w 11 21 dt
theorem ag4(x:Int)(w:World):aB 239 #[.int .u32 x,.int .i64 (-25)] w fun e w'=>e=.returned (.int .u32 (lV x 7))/\w'=w:=rb x w 25 7 dt
theorem amS(x:Int)(w:World):aB 239 #[.int .u32 x,.int .i64 (-2)] w fun e w'=>e=.returned (.int .u32 (lV x 30))/\w'=w:=rb x w 2 30 dt
theorem ag5(x:Int)(w:World):aB 239 #[.int .u32 x,.int .i64 (-13)] w fun e w'=>e=.returned (.int .u32 (lV x 19))/\w'=w:=rb x w 13 19 dt
theorem ag6(x:Int)(w:World):aB 239 #[.int .u32 x,.int .i64 (-22)] w fun e w'=>e=.returned (.int .u32 (lV x 10))/\w'=w:=rb x w 22 10 dt
structure Sh where
 v0:Int
 v1:Int
 v2:Int
 v3:Int
 v4:Int
 v5:Int
 v6:Int
 v7:Int
def uW(w:World)(g:Nat)(h:Sh):Prop:=w.heap[g]?=some (.cells #[.int .u32 h.v0,.int .u32 h.v1,.int .u32 h.v2,.int .u32 h.v3,.int .u32 h.v4,.int .u32 h.v5,.int .u32 h.v6,.int .u32 h.v7] 293 (0,0))
def shP(ws:List Int)(k:Nat)(v:Sh):Int:=(v.v7+Kk (lV v.v4 26) (lV v.v4 21) (lV v.v4 7)+bits .xor .u32 (bits .and .u32 v.v4 v.v5) (bits .and .u32 (M1 v.v4) v.v6)+Dj.getD k 0+ws.getD k 0)%4294967296
def shQ(v:Sh):Int:=(Kk (lV v.v0 30) (lV v.v0 19) (lV v.v0 10)+Kk (bits .and .u32 v.v0 v.v1) (bits .and .u32 v.v0 v.v2) (bits .and .u32 v.v1 v.v2))%4294967296
def Uo(v:Sh)(p q:Int):Sh:=⟨(p+q)%4294967296,v.v0,v.v1,v.v2,(v.v3+p)%4294967296,v.v4,v.v5,v.v6⟩
def zh(ws:List Int)(h:Sh):Nat->Sh
 |0=>h
 |k+1=>Uo (zh ws h k) (shP ws k (zh ws h k)) (shQ (zh ws h k))
def Pz(h v:Sh):Sh:=⟨(h.v0+v.v0)%4294967296,(h.v1+v.v1)%4294967296,(h.v2+v.v2)%4294967296,(h.v3+v.v3)%4294967296,(h.v4+v.v4)%4294967296,(h.v5+v.v5)%4294967296,(h.v6+v.v6)%4294967296,(h.v7+v.v7)%4294967296⟩
def zi(X:aH)(h:Sh):Sh:=Pz h (zh (Xu X 64) h 64)
def sh0:Sh:=⟨1779033703,3144134277,1013904242,2773480762,1359893119,2600822924,528734635,1541459225⟩
def AF(T:aH):Nat->Sh
 |0=>sh0
 |k+1=>zi (T.drop (64*k)) (AF T k)
def Sh.list(s:Sh):List Int:=[s.v0,s.v1,s.v2,s.v3,s.v4,s.v5,s.v6,s.v7]
def Kl(l:aH):aH:=oG false (AF (uU false l) ((uU false l).length/64)).list
def ag8(T:aj)(g:Nat)(w:World)(t:Value)(wr:World):Prop:=∃k:Nat,64*k<=T.size/\t=.string (T.extract (64*k) T.size)/\uW wr g (AF T.data.toList k)/\Fr aS w wr
def qx(w:World)(g:Nat)(l:List Int):Prop:=w.heap[g]?=some (.cells ((l++List.replicate (64-l.length) 0).map (Value.int .u32)).toArray 295 (0,0))
theorem PI:∀l:aH,(uX l).length=(l.length+2)/3*4
 |[]=>rfl
 |[_]=>by simp[uX]
 |[_,_]=>by simp[uX]
 |a :: b :: c :: r=>by
  have ih:=PI r;simp only[uX,List.length_cons]at ih ⊢;omega
open Go.RowKit Go.Shelf
attribute [local go_sem] Oper.semAt_some
theorem Nd(s:aj)(c:UInt8)(w:World) :
  aB 156 #[.string s,.string ⟨#[c]⟩] w fun e w'=>e=.returned (.int .i64 (Lib.indexByte s.data.toList c))/\w'=w:=by
 go_enter func156,ntmps156;go_wp2_with fail
 refine(stringslite_Index_one s c w).mono ?_;rintro e w1⟨rfl,rfl⟩;go_wp2;go_ret;exact⟨rfl,rfl⟩
def Uy(w:World)(k:Nat):Nat:=match w.cell? ⟨k,0,none⟩with
 |some (.string s)=>s.size+1
 |_=>0
theorem B6(s:aj)(k n:Nat)(w:World)(hn:1<=n)(hs:s.size<100000)
  (h0:w.heap[k]?=some (.cells #[.string s] 9 (0,0)))(h1:w.heap[k+1]?=some (.cells #[.string ⟨#[46]⟩] 9 (0,0)))(h2:w.heap[k+2]?=some (.cells #[.int .i64 0] 3 (0,0))) :
  Uv Fence.wide n prog 233 #[.pointer (some ⟨k+1,0,none⟩),.pointer (some ⟨k,0,none⟩),.pointer (some ⟨k+2,0,none⟩)] (fun x:aj=>Value.string x) k (iQ 46 s) w:=by
 intro l J Jx W hfW hJ hJx hY hJ0;have b0:=hfW.keep h0 id;have b1:=hfW.keep h1 id;have b2:=hfW.keep h2 id;have c0:W.cell? ⟨k,0,none⟩=some (.string s):=by simp[World.cell?,b0]
 have c1:W.cell? ⟨k+1,0,none⟩=some (.string ⟨#[46]⟩):=by simp[World.cell?,b1]
 refine callsIn_of_wp func233 rfl trivial ?_ rfl;simp only[ntmps233,aZ,List.length_cons,List.length_nil,Nat.reduceAdd,Nat.reduceSub,Array.replicate_succ,Array.replicate_zero,List.push_toArray,List.append_toArray,List.nil_append,List.cons_append];gi_wp2
 gi_loopw [] (fun wr=>∃(pre:List aj) (r:aj),pre++iQ 46 r=iQ 46 s/\r.size<=s.size/\wr.heap[k]?=some (.cells #[.string r] 9 (0,0))/\wr.heap[k+1]?=some (.cells #[.string ⟨#[46]⟩] 9 (0,0))/\wr.heap[k+2]?=some (.cells #[.int .i64 0] 3 (0,0))/\J pre wr) (fun wr=>Uy wr k)
 case atStart=>exact⟨[],s,rfl,ay _,b0,b1,b2,hJ0⟩
 case round =>
  obtain⟨pre,r,yB,hrs,d0,d1,d2,hj⟩:=hrel;have e0:wr.cell? ⟨k,0,none⟩=some (.string r):=by simp[World.cell?,d0]
  have e1:wr.cell? ⟨k+1,0,none⟩=some (.string ⟨#[46]⟩):=by simp[World.cell?,d1]
  have e2:wr.cell? ⟨k+2,0,none⟩=some (.int .i64 0):=by simp[World.cell?,d2]
  gi_wp2_with fail
  refine⟨trivial,?_⟩;refine(callsIn_wide.2 (Nd r 46 wr)).mono ?_;rintro e u⟨rfl,rfl⟩;by_cases wF:0<=Lib.indexByte r.data.toList 46
  ·obtain⟨i,hi⟩:∃i:Nat,Lib.indexByte r.data.toList 46=(i:Int):=⟨(Lib.indexByte r.data.toList 46).toNat,ab⟩;have hil:i<r.size:=by have:=Ux hi;simpa using this
   have HPH:=O (Ds 46 r i hi);rw[hi];clear hi wF;have q0:¬(i:Int)<0:=ab;have q1:(0:Int)<=(i:Int):=ab;have q2:(i:Int)<=(r.size:Int):=ab;have q3:(i:Int)+1<=(r.size:Int):=ab;have q4:(0:Int)<=(i:Int)+1:=ab;obtain⟨fn,tmps,assign,body,hy,hR⟩:=hY pre (r.extract 0 i) u hj ⟨iQ 46 (r.extract (i+1) r.size),by rw[cK,List.singleton_append, <-HPH.o];exact yB⟩;gi_wp2;refine hR.mono ?_
   rintro e W3(⟨rfl,hJ3,Hj⟩|⟨rfl,xk⟩)
   ·have f0:=(Hj k ab ab).trans d0;have f1:=(Hj (k+1) ab ab).trans d1;have f2:=(Hj (k+2) ab ab).trans d2;clear e0 e1 e2 Hj;have e0:W3.cell? ⟨k,0,none⟩=some (.string r):=by simp[World.cell?,f0]
    have e1:W3.cell? ⟨k+1,0,none⟩=some (.string ⟨#[46]⟩):=by simp[World.cell?,f1]
    have e3:W3.frozen? ⟨k,0,none⟩=false:=by simp[World.frozen?,f0]
    gi_wp2;have g0:(W3.setCell ⟨k,0,none⟩ (.string (r.extract (i+1) r.size))).heap[k]?=some (.cells #[.string (r.extract (i+1) r.size)] 9 (0,0)):=by simp[World.setCell,Array.getElem?_modify,f0]
    have hz:(r.extract (i+1) r.size).size=r.size-(i+1):=by rw[gy];omega
    refine⟨⟨pre++[r.extract 0 i],r.extract (i+1) r.size,by rw[cK,List.singleton_append, <-HPH.o];exact yB,ab,g0,(Below.heap_setCell _ _ _ _ aR).trans f1,(Below.heap_setCell _ _ _ _ aR).trans f2,hJ _ _ _ hJ3 ((ae (fun j=>j=k) W3).setCell (p:=⟨k,0,none⟩) (fun _=>rfl) _)⟩,?_⟩;unfold Uy;simp only[World.cell?,g0,d0];simp;omega
   ·gi_wp2;refine aU (results_none rfl _ _ _) rfl ?_;exact⟨⟨_,rfl⟩,.inr ⟨pre++[r.extract 0 i],⟨iQ 46 (r.extract (i+1) r.size),by rw[cK,List.singleton_append, <-HPH.o];exact yB⟩,xk⟩⟩
  ·have HPM:=O (show pre++[r]=iQ 46 s by rw[<-Bz 46 r wF];exact yB);obtain⟨fn,tmps,assign,body,hy,hR⟩:=hY pre r u hj ⟨[],by rw[dR];exact HPM.o⟩;have q0:Lib.indexByte r.data.toList 46<0:=ab;clear wF;gi_wp2;refine hR.mono ?_;rintro e W3(⟨rfl,hJ3,Hj⟩|⟨rfl,xk⟩)
   ·gi_wp2;go_end0;exact⟨⟨_,rfl⟩,.inl (by rw[<-HPM.o];exact hJ3)⟩
   ·gi_wp2;go_end0;exact⟨⟨_,rfl⟩,.inr ⟨pre++[r],⟨[],by rw[dR];exact HPM.o⟩,xk⟩⟩
