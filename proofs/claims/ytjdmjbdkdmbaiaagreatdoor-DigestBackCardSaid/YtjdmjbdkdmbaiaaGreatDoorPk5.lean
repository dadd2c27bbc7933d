/- Sum1, Token4, Types, Cut1, SortS. -/
import Derived.Test.YtjdmjbdkdmbaiaaGreatDoorPk4
set_option maxRecDepth 100000
set_option maxHeartbeats 16000000
set_option linter.unusedSimpArgs false
namespace Go.Proofs.YtjdmjbdkdmbaiaaGreatDoor
open Go.RowKit
def Jk(a b c d:UInt8):Int:=bits .or .u32 (bits .or .u32 (bits .or .u32 ((a.toNat:Int)%4294967296) ((b.toNat:Int)%4294967296*256%4294967296)) ((c.toNat:Int)%4294967296*65536%4294967296)) ((d.toNat:Int)%4294967296*16777216%4294967296)
def zw(l:List UInt8)(i:Nat):UInt8:=l.getD i 0
def lh(bj:Bool)(l:List UInt8):Int:=if bj then Jk (zw l 0) (zw l 1) (zw l 2) (zw l 3)else Jk (zw l 3) (zw l 2) (zw l 1) (zw l 0)
theorem mP(s:ByteArray)(i:Nat)(h:i<s.size):zw s.data.toList i=s[i]:=by
 unfold zw;rw[List.getD_eq_getElem?_getD,byte_at s i h];rfl
theorem Jl{a b:Int}(h:a=b):Ending.returned (.int .u32 a)=.returned (.int .u32 b):=by rw[h]
theorem pV(s:ByteArray)(bj:Bool)(w:World)(hs:4<=s.size)(Kp:s.size<17592186044416) :
  Calls Tryz.prog 219 #[.string s,.bool bj] w fun e w'=>e=.returned (.int .u32 (lh bj s.data.toList))/\∃n,w'=w.drewN n:=by
 have h0:0<s.size:=by omega
 have h1:1<s.size:=by omega
 have h2:2<s.size:=by omega
 have h3:3<s.size:=by omega
 have HWF:=O (show lh false s.data.toList=bits .or .u32 (bits .or .u32 (bits .or .u32 ((s[3].toNat:Int)%4294967296) ((s[2].toNat:Int)%4294967296*256%4294967296)) ((s[1].toNat:Int)%4294967296*65536%4294967296)) ((s[0].toNat:Int)%4294967296*16777216%4294967296)by rw[<-mP s 0 h0, <-mP s 1 h1, <-mP s 2 h2, <-mP s 3 h3];unfold lh Jk;rw[if_neg (by decide)])
 have HWT:=O (show lh true s.data.toList=bits .or .u32 (bits .or .u32 (bits .or .u32 ((s[0].toNat:Int)%4294967296) ((s[1].toNat:Int)%4294967296*256%4294967296)) ((s[2].toNat:Int)%4294967296*65536%4294967296)) ((s[3].toNat:Int)%4294967296*16777216%4294967296)by rw[<-mP s 0 h0, <-mP s 1 h1, <-mP s 2 h2, <-mP s 3 h3];unfold lh Jk;rw[if_pos rfl]);cases bj
 ·go_enter Tryz.func219,Tryz.ntmps219;go_wp2;have i0:(0:Int)<(s.size:Int):=by omega
  have i1:(1:Int)<(s.size:Int):=by omega
  have i2:(2:Int)<(s.size:Int):=by omega
  have i3:(3:Int)<(s.size:Int):=by omega
  go_quiet (fail);go_wp2;go_ret;exact⟨Jl HWF.out.symm,_,rfl⟩
 ·go_enter Tryz.func219,Tryz.ntmps219;go_wp2;have i0:(0:Int)<(s.size:Int):=by omega
  have i1:(1:Int)<(s.size:Int):=by omega
  have i2:(2:Int)<(s.size:Int):=by omega
  have i3:(3:Int)<(s.size:Int):=by omega
  go_quiet (fail);go_wp2;go_ret;exact⟨Jl HWT.out.symm,_,rfl⟩
def gJ(x:Int)(n:Nat):Int:=bits .or .u32 (x*2^n%4294967296) (x/2^(32-n))
theorem xg(x k:Int)(n:Nat)(w:World)(hk:0<=k)(ng:k<32)(hb:bits .and .u64 k 31=(n:Int))(hn:n<32) :
  Calls Tryz.prog 220 #[.int .u32 x,.int .i64 k] w fun e w'=>e=.returned (.int .u32 (gJ x n))/\w=w':=by
 go_enter Tryz.func220,Tryz.ntmps220;go_wp2;go_ret;exact⟨rfl,rfl⟩
theorem Ud(x k:Int)(n:Nat)(w:World)(hk: -32<k)(ng:k<0)(hb:bits .and .u64 (k+18446744073709551616) 31=(n:Int))(hn:n<32) :
  Calls Tryz.prog 220 #[.int .u32 x,.int .i64 k] w fun e w'=>e=.returned (.int .u32 (gJ x n))/\w=w':=by
 have hw:IntKind.u64.wrap k=k+18446744073709551616:=by
  have e:IntKind.u64.wrap k=k%18446744073709551616:=by simp[IntKind.wrap,IntKind.signed,IntKind.bits]
  rw[e];omega
 go_enter Tryz.func220,Tryz.ntmps220;go_wp2;go_ret;exact⟨rfl,rfl⟩
def og(bj:Bool)(n i:Nat):UInt8:=if bj then(n/2^(8*i)%256).toUInt8 else(n/2^(56-8*i)%256).toUInt8
def r_(bj:Bool)(n:Nat):List UInt8:=(List.range 8).map (og bj n)
def pd(bj:Bool)(l:List UInt8):List UInt8:=l++[128]++List.replicate ((55-(l.length:Int)%64+64)%64).toNat 0++r_ bj (l.length*8)
theorem afR(w:World):(Instr.makeSlice 159 (.int .i64 8) (.int .i64 8)).run Tryz.prog w=.ok (.slice (some ⟨w.heap.size,0,none⟩) 8 8) (w.alloc (.cells (nT (List.replicate 8 0)).toArray 5)):=by
 obtain⟨i0,hi,oZ,iy,gU⟩:=info_parts IH;have h:=run_makeSlice w 159 5 i0 (.int .u8 0) Tryz.underlying159 hi oZ .i64 .i64 8 8 (by decide) (by decide) (by rw[iy];decide) (by rw[gU];decide) (by decide);rw[iy]at h;have e:madeCells (Value.int .u8 0).cells (Int.toNat 8*1)=(nT (List.replicate 8 0)).toArray:=by kernel_rfl
 rw[e]at h;exact h
def sa(w:World)(g:Nat)(l:List UInt8):Prop:=w.heap[g]?=some (.cells (nT l).toArray 5 (0,0))
theorem sa.cell{w:World}{g:Nat}{l:List UInt8}(h:sa w g l){j:Nat}{c:UInt8}(hj:l[j]?=some c):w.cell? ⟨g,j,none⟩=some (.int .u8 (c.toNat:Int)):=by
 obtain⟨hl,he⟩:=List.getElem?_eq_some_iff.1 hj;unfold sa at h;simp only[World.cell?,h];simp[nT,hl,he]
theorem sa.free{w:World}{g:Nat}{l:List UInt8}(h:sa w g l)(j:Nat):w.frozen? ⟨g,j,none⟩=false:=by
 unfold sa at h;simp[World.frozen?,h]
theorem sa.set{w:World}{g:Nat}{l:List UInt8}(h:sa w g l)(j:Nat)(c:UInt8):sa (w.setCell ⟨g,j,none⟩ (.int .u8 (c.toNat:Int))) g (l.set j c):=by
 unfold sa at h ⊢;simp only[World.setCell,Array.getElem?_modify,h];simp[nT,List.map_set]
theorem sa.text{w:World}{g:Nat}{l:List UInt8}(h:sa w g l)(n c:Nat)(hn:n=l.length) :
  (convert 159 9 (.slice (some ⟨g,0,none⟩) n c)).run Tryz.prog w=.ok (.string ⟨l.toArray⟩) w:=by
 subst hn;refine run_convert_bytes_back (P:=Tryz.prog) w 159 9 5 ⟨g,0,none⟩ c l Tryz.underlying159 Tryz.underlying5 Tryz.underlying9 ?_;intro j hj;have ea:(Addr.add ⟨g,0,none⟩ j)=⟨g,j,none⟩:=by unfold Addr.add;split<;>simp_all
 rw[ea];exact h.cell (List.getElem?_eq_getElem hj)
theorem iP(bj:Bool)(n:Nat):(r_ bj n).length=8:=by simp[r_]
def nF(bj:Bool)(n k:Nat):List UInt8:=(r_ bj n).take k++List.replicate (8-k) 0
theorem xU(bj:Bool)(n k:Nat)(hk:k<8):nF bj n (k+1)=(nF bj n k).set k (og bj n k):=by
 have hg:(r_ bj n)[k]?=some (og bj n k):=by simp[r_,hk]
 unfold nF;rw[List.take_add_one,hg];have e:List.replicate (8-k) (0:UInt8)=0 :: List.replicate (8-(k+1)) 0:=by
  rw[show 8-k=(8-(k+1))+1 from by omega,List.replicate_succ]
 rw[e,List.set_append,if_neg (by rw[List.length_take,iP];omega)];rw[show k-((r_ bj n).take k).length=0 from by rw[List.length_take,iP];omega];simp
theorem Ap(bj:Bool)(n:Nat):nF bj n 8=r_ bj n:=by
 unfold nF;rw[List.take_of_length_le (by rw[iP];omega)];simp
theorem xV:∀(k:Nat),(Lib.repeatL [0] k).length=k
 |0=>rfl
 |k+1=>by
  show(([0]:List UInt8)++Lib.repeatL [0] k).length=k+1;rw[List.length_append,xV k];simp;omega
theorem Aq:∀(k:Nat),Lib.repeatL [0] k=List.replicate k (0:UInt8)
 |0=>rfl
 |k+1=>by
  show([0]:List UInt8)++Lib.repeatL [0] k=_;rw[Aq k,List.replicate_succ];rfl
theorem Ar(n e:Nat):(((n/2^e%256).toUInt8.toNat:Nat):Int)=(n:Int)/2^e%256:=by
 rw[show(n/2^e%256).toUInt8.toNat=n/2^e%256 from by simp[Nat.toUInt8]];rw[Int.natCast_emod,Int.natCast_ediv,Int.natCast_pow];rfl
def N5(bj:Bool)(n g:Nat)(w:World)(i:Value)(wr:World):Prop:=∃k:Nat,k<=8/\i=.int .i64 k/\sa wr g (nF bj n k)/\Fr ay w wr
theorem Jm(s:ByteArray)(bj:Bool)(w:World)(hs:s.size<17592186044416) :
  Calls Tryz.prog 218 #[.string s,.bool bj] w fun e w'=>e=.returned (.string ⟨(pd bj s.data.toList).toArray⟩)/\Fr ay w w':=by
 obtain⟨q,hq⟩:∃q:Nat,(55-(s.size:Int))%64=(q:Int):=⟨((55-(s.size:Int))%64).toNat,by omega⟩;have avR:q<64:=by omega
 have afS:=O (show pd bj s.data.toList=s.data.toList++[128]++Lib.repeatL [0] q++r_ bj (s.size*8)by
  unfold pd;rw[Aq,show s.data.toList.length=s.size from by simp,show((55-(s.size:Int)%64+64)%64).toNat=q from by omega])
 have qW:=xV q;have I2:=fun W=>afR W;go_enter Tryz.func218,Tryz.ntmps218;go_wp2_with fail
 refine(Tryz.strings_Repeat ⟨#[0]⟩ q w (by omega) (by show 1*q<=_;omega)).mono ?_;rintro e w1⟨rfl,o9⟩;have Ue:¬9223372036854775807<s.size+1+(Lib.repeatL [0] q).length:=by omega
 have bt:=Fr.gW o9;have HL:=O qW;clear qW o9;have WQ:sa (w1.alloc (.cells (nT (List.replicate 8 0)).toArray 5)) w1.heap.size (nF bj (s.size*8) 0):=by
  unfold sa;rw[af];rfl
 have HR0:=O WQ;have zo:=bt.size;clear WQ;cases bj
 ·go_wp2;clear I2;go_loopw[26] (N5 false (s.size*8) w1.heap.size w) (fun i _=>8-(intOf i).toNat)
  case atStart=>exact⟨0,by omega,rfl,HR0.out,bt.alloc _⟩
  case round =>
   obtain⟨k,hk,rfl,gG,aW⟩:=hrel;by_cases cG:k<8
   ·have hlen:(nF false (s.size*8) k).length=8:=by unfold nF;rw[List.length_append,List.length_take,iP,List.length_replicate];omega
    have hc:=gG.cell (List.getElem?_eq_getElem (show k<(nF false (s.size*8) k).length by omega));have hf:=gG.free k;have lf:(k:Int)<8:=by omega
    have ln:=O (gG.set k (og false (s.size*8) k));have hsc:=O (xU false (s.size*8) k cG);have Tl:=O (show((og false (s.size*8) k).toNat:Int)=(s.size:Int)*8/2^(56-8*k)%256 from(Ar (s.size*8) (56-8*k)).trans (by rw[Int.natCast_mul];rfl));go_wp2;go_roundw
    case rel=>exact⟨k+1,by omega,by go_num,by rw[hsc.out];have h:=ln.out;rw[Tl.out]at h;exact h,aW.dI (p:=⟨w1.heap.size,k,none⟩) zo _⟩
    case measure=>simp[intOf];omega
   ·have hk8:k=8:=by omega
    subst hk8;rw[Ap]at gG;have vH:=gG.text 8 8 (by rw[iP]);have FP:(r_ false (s.size*8)).length=8:=iP _ _;have afT:¬9223372036854775807<s.size+1+(Lib.repeatL [0] q).length+(r_ false (s.size*8)).length:=by have:=HL.out;omega
    have bR:=O (show(s++⟨#[128]⟩++⟨(Lib.repeatL [0] q).toArray⟩++⟨(r_ false (s.size*8)).toArray⟩:ByteArray)=⟨(pd false s.data.toList).toArray⟩from by
     apply Go.WideShapes.bytes_inj;rw[afS.out];simp[ByteArray.data_append])
    go_wp2;go_ret;exact⟨by rw[<-bR.out];rfl,aW⟩
 ·go_wp2;clear I2;go_loopw[26] (N5 true (s.size*8) w1.heap.size w) (fun i _=>8-(intOf i).toNat)
  case atStart=>exact⟨0,by omega,rfl,HR0.out,bt.alloc _⟩
  case round =>
   obtain⟨k,hk,rfl,gG,aW⟩:=hrel;by_cases cG:k<8
   ·have hlen:(nF true (s.size*8) k).length=8:=by unfold nF;rw[List.length_append,List.length_take,iP,List.length_replicate];omega
    have hc:=gG.cell (List.getElem?_eq_getElem (show k<(nF true (s.size*8) k).length by omega));have hf:=gG.free k;have lf:(k:Int)<8:=by omega
    have ln:=O (gG.set k (og true (s.size*8) k));have hsc:=O (xU true (s.size*8) k cG);have Tl:=O (show((og true (s.size*8) k).toNat:Int)=(s.size:Int)*8/2^(8*k)%256 from(Ar (s.size*8) (8*k)).trans (by rw[Int.natCast_mul];rfl));go_wp2;go_roundw
    case rel=>exact⟨k+1,by omega,by go_num,by rw[hsc.out];have h:=ln.out;rw[Tl.out]at h;exact h,aW.dI (p:=⟨w1.heap.size,k,none⟩) zo _⟩
    case measure=>simp[intOf];omega
   ·have hk8:k=8:=by omega
    subst hk8;rw[Ap]at gG;have vH:=gG.text 8 8 (by rw[iP]);have FP:(r_ true (s.size*8)).length=8:=iP _ _;have afT:¬9223372036854775807<s.size+1+(Lib.repeatL [0] q).length+(r_ true (s.size*8)).length:=by have:=HL.out;omega
    have bR:=O (show(s++⟨#[128]⟩++⟨(Lib.repeatL [0] q).toArray⟩++⟨(r_ true (s.size*8)).toArray⟩:ByteArray)=⟨(pd true s.data.toList).toArray⟩from by
     apply Go.WideShapes.bytes_inj;rw[afS.out];simp[ByteArray.data_append])
    go_wp2;go_ret;exact⟨by rw[<-bR.out];rfl,aW⟩
def uN(l:List UInt8):Bool:=l.all cP&&!l.isEmpty
theorem rh{p:UInt8->Bool}{l:List UInt8}{k:Nat}{x:UInt8}(h:l[k]?=some x):(l.take (k+1)).all p=((l.take k).all p&&p x):=by
 rw[List.take_add_one,h];simp
theorem sT{p:UInt8->Bool}{l:List UInt8}{k:Nat}{x:UInt8}(h:l[k]?=some x)(hp:p x=false):l.all p=false:=by
 rw[List.all_eq_false];exact⟨x,List.mem_of_getElem? h,by simp[hp]⟩
theorem xo(s:ByteArray)(w:World)(hs:s.size<17592186044416) :
  Calls Tryz.prog 70 #[.string s] w fun e w'=>e=.returned (.bool (uN s.data.toList))/\w=w':=by
 go_enter Tryz.func70,Tryz.ntmps70;go_wp2
 go_loop [6] (fun i=>∃k:Nat,k<=s.size/\i=.int .i64 k/\(s.data.toList.take k).all cP=true) (fun i=>s.size-(intOf i).toNat)
 case atStart=>exact⟨0,Nat.zero_le _,rfl,by simp⟩
 case round =>
  obtain⟨k,hk,rfl,dy⟩:=hrel;have Dn:=O dy;clear dy;by_cases cG:k<s.size
  ·have bC:=O (byte_at s k cG);generalize hx:s[k]=x at bC;cases e1:cP x
   ·have bR:=O (show uN s.data.toList=false by unfold uN;rw[sT bC.out e1];rfl);go_wp2_with (go_at_call 135;refine(sR _ _).mono ?_;rintro e w' ⟨rfl,rfl⟩)
    go_ret;rw[bR.out];exact⟨rfl,rfl⟩
   ·have kT:=O (show(s.data.toList.take (k+1)).all cP=true by rw[rh bC.out,Dn.out,e1];rfl);go_wp2_with (go_at_call 135;refine(sR _ _).mono ?_;rintro e w' ⟨rfl,rfl⟩)
    go_round
    case rel=>exact⟨k+1,by omega,by go_num,kT.out⟩
    case measure=>simp[intOf];omega
  ·have IP:=O (show s.data.toList.all cP=true by have h:=Dn.out;rw[List.take_of_length_le (by simp;omega)]at h;exact h);go_wp2;go_ret;refine⟨cJ ?_,rfl⟩;unfold uN;rw[IP.out,ByteArray.toList_eq];simp
def na(l:List UInt8):List UInt8:=l.flatMap (fun c=>if c==34||c==92 then [92,c]else [c])
def cL(l:List UInt8):List UInt8:=34 :: (na l++[34])
theorem IQ(l:List UInt8):(na l).length<=2*l.length:=by
 induction l with
 |nil=>simp[na]
 |cons c l ih=>simp[na]at ih ⊢; split<;>simp<;>omega
theorem Km{l:List UInt8}{k:Nat}{x:UInt8}(h:l[k]?=some x):na (l.take (k+1))=na (l.take k)++(if x==34||x==92 then [92,x]else [x]):=by
 rw[List.take_add_one,h];simp[na]
def jk(l:List UInt8):Bool:=l.all iL
def Kn(s:ByteArray)(w:World)(e:Ending)(w':World):Prop :=
 e=.returned (.tuple (if jk s.data.toList then #[.string ⟨(cL s.data.toList).toArray⟩,.nilIface]else #[.string ⟨#[]⟩,.iface 116 (.int .i64 3)]))/\Fr ay w w'
def afq(s:ByteArray)(w:World)(v i:Value)(wr:World):Prop :=
 ∃k:Nat,k<=s.size/\i=.int .i64 k/\Bytes w.heap.size wr v (34 :: na (s.data.toList.take k))/\Fr ay w wr/\(s.data.toList.take k).all iL=true
theorem zP(s:ByteArray)(w:World)(hs:s.size<17592186044416) :
  Calls Tryz.prog 87 #[.string s] w (Kn s w):=by
 go_enter Tryz.func87,Tryz.ntmps87;go_wp2;go_loopw[4,9] (afq s w) (fun _ i _=>s.size-(intOf i).toNat)
 case atStart =>
  exact⟨0,Nat.zero_le _,rfl,Bytes.amW w 34,(Fr.refl _ _).alloc _,by simp⟩
 case round =>
  obtain⟨k,hk,rfl,a_,aW,dy⟩:=hrel;have Dn:=O dy;clear dy;have eI:w.heap.size<=wr.heap.size:=aW.size;have TE:=O (show(na (s.data.toList.take k)).length<=2*k from Nat.le_trans (IQ _) (Nat.mul_le_mul_left 2 (by simp;omega)));obtain⟨av,cv,hv⟩:=a_.form;subst hv;by_cases cG:k<s.size
  ·have bC:=O (byte_at s k cG);generalize hx:s[k]=x at bC;cases e1:iL x
   ·have bR:=O (show jk s.data.toList=false from sT bC.out e1);go_wp2_with (go_at_call 156;refine(kE _ _).mono ?_;rintro e w' ⟨rfl,rfl⟩)
    go_ret2;refine⟨?_,aW⟩;rw[bR.out];rfl
   ·have kT:=O (show(s.data.toList.take (k+1)).all iL=true by rw[rh bC.out,Dn.out,e1];rfl);have hes:=O (Km bC.out);cases e2:x==34
    ·cases e3:x==92
     ·have n1:((x.toNat:Int)==34)=false:=by rw[<-e2];exact oP 34 (by decide)
      have n2:((x.toNat:Int)==92)=false:=by rw[<-e3];exact oP 92 (by decide)
      have Ns:=O (show na (s.data.toList.take (k+1))=na (s.data.toList.take k)++[x]by rw[hes.out,e2,e3];rfl);clear e2 e3
      go_wp2_with (first|(at_builtin;refine eS (o:=⟨some 36,_,_,_,_,_⟩) rfl _ _ rfl w.heap.size (.slice av _ cv) (34 :: na (s.data.toList.take k)) rfl (by apply Bytes.alloc;exact a_) ⟨wr.heap.size,0,none⟩ 1 x rfl (eo _ _ _ _) (by have:=TE.out;simp;omega) (by simp;omega) ?_;intro v' w2 bV wG)|(go_at_call 156;refine(kE _ _).mono ?_;rintro e w' ⟨rfl,rfl⟩))
      go_roundw
      case rel=>exact⟨k+1,by omega,by go_num,by rw[Ns.out];exact bV,(aW.alloc _).cK wG a_.block,kT.out⟩
      case measure=>simp[intOf];omega
     ·have n1:((x.toNat:Int)==34)=false:=by rw[<-e2];exact oP 34 (by decide)
      have n2:((x.toNat:Int)==92)=true:=by rw[<-e3];exact oP 92 (by decide)
      have Ns:=O (show na (s.data.toList.take (k+1))=na (s.data.toList.take k)++[92,x]by rw[hes.out];simp only[e2,e3,Bool.or_true,if_true]);clear e2 e3
      go_wp2_with (first|(at_builtin;refine eS (o:=⟨some 30,_,_,_,_,_⟩) rfl _ _ rfl w.heap.size (.slice av _ cv) (34 :: na (s.data.toList.take k)) rfl (by apply Bytes.alloc;exact a_) ⟨wr.heap.size,0,none⟩ 1 92 rfl (eo _ _ _ _) (by have:=TE.out;simp;omega) (by simp;omega) ?_;intro v1 w1 oQ Ko;have o9:wr.heap.size+1<=w1.heap.size:=by simpa using Ko.size)|(at_builtin;refine eS (o:=⟨some 36,_,_,_,_,_⟩) rfl _ _ rfl w.heap.size v1 (34 :: na (s.data.toList.take k)++[92]) rfl (by apply Bytes.alloc;exact oQ) ⟨w1.heap.size,0,none⟩ 1 x rfl (eo _ _ _ _) (by have:=TE.out;simp;omega) (by simp;omega) ?_;intro v' w2 bV wG)|(go_at_call 156;refine(kE _ _).mono ?_;rintro e w' ⟨rfl,rfl⟩))
      go_roundw
      case rel=>exact⟨k+1,by omega,by go_num,by rw[Ns.out];simpa using bV,((((aW.alloc _).cK Ko a_.block).alloc _).cK wG oQ.block),kT.out⟩
      case measure=>simp[intOf];omega
    ·have n1:((x.toNat:Int)==34)=true:=by rw[<-e2];exact oP 34 (by decide)
     have Ns:=O (show na (s.data.toList.take (k+1))=na (s.data.toList.take k)++[92,x]by rw[hes.out];simp only[e2,Bool.true_or,if_true]);clear e2
     go_wp2_with (first|(at_builtin;refine eS (o:=⟨some 30,_,_,_,_,_⟩) rfl _ _ rfl w.heap.size (.slice av _ cv) (34 :: na (s.data.toList.take k)) rfl (by apply Bytes.alloc;exact a_) ⟨wr.heap.size,0,none⟩ 1 92 rfl (eo _ _ _ _) (by have:=TE.out;simp;omega) (by simp;omega) ?_;intro v1 w1 oQ Ko;have o9:wr.heap.size+1<=w1.heap.size:=by simpa using Ko.size)|(at_builtin;refine eS (o:=⟨some 36,_,_,_,_,_⟩) rfl _ _ rfl w.heap.size v1 (34 :: na (s.data.toList.take k)++[92]) rfl (by apply Bytes.alloc;exact oQ) ⟨w1.heap.size,0,none⟩ 1 x rfl (eo _ _ _ _) (by have:=TE.out;simp;omega) (by simp;omega) ?_;intro v' w2 bV wG)|(go_at_call 156;refine(kE _ _).mono ?_;rintro e w' ⟨rfl,rfl⟩))
     go_roundw
     case rel=>exact⟨k+1,by omega,by go_num,by rw[Ns.out];simpa using bV,((((aW.alloc _).cK Ko a_.block).alloc _).cK wG oQ.block),kT.out⟩
     case measure=>simp[intOf];omega
  ·have IP:=O (show s.data.toList.take k=s.data.toList from List.take_of_length_le (by simp;omega))
   go_wp2_with (at_builtin;refine eS (o:=⟨some 40,_,_,_,_,_⟩) rfl _ _ rfl w.heap.size (.slice av _ cv) (34 :: na (s.data.toList.take k)) rfl (by apply Bytes.alloc;exact a_) ⟨wr.heap.size,0,none⟩ 1 34 rfl (eo _ _ _ _) (by have:=TE.out;simp;omega) (by simp;omega) ?_;intro v1 w1 oQ Ko;obtain⟨a1,c1,FG⟩:=oQ.form;subst FG;have ht1:=oQ.text;simp only[List.length_append,List.length_cons,List.length_nil,Nat.zero_add]at ht1)
   go_ret2;refine⟨?_,(aW.alloc _).cK Ko a_.block⟩;have afr:jk s.data.toList=true:=by rw[<-IP.out];exact Dn.out
   rw[if_pos afr,IP.out];rfl
abbrev aF:=List ByteArray
structure cO where
 ae:Bool
 host:ByteArray
 port:Int
def cO.cells(o:cO):List Value:=[.bool o.ae,.string o.host,.int .i64 o.port]
structure cQ (D:Type) where
 scheme:Int
 ar:ByteArray
 aE:ByteArray
 aK:ByteArray
 aL:Bool
 bU:ByteArray
 aX:Bool
 dom:D
def cQ.cells(a:cQ Value):List Value:=[.int .i64 a.scheme,.string a.ar,.string a.aE,.string a.aK,.bool a.aL,.string a.bU,.bool a.aX,a.dom]
structure ai (D:Type) where
 o:cO
 proxy:Bool
 user:ByteArray
 pass:ByteArray
 a:cQ D
 count:Int
 paths:D
def ai.cells(g:ai Value):List Value :=
 [.bool g.o.ae,.string g.o.host,.int .i64 g.o.port,.bool g.proxy,.string g.user,.string g.pass,
  .int .i64 g.a.scheme,.string g.a.ar,.string g.a.aE,.string g.a.aK,.bool g.a.aL,.string g.a.bU,.bool g.a.aX,g.a.dom,.int .i64 g.count,g.paths]
def cQ.Reads(R:Value->List ByteArray->Prop)(r:cQ Value)(a:cQ (List ByteArray)):Prop :=
 r.scheme=a.scheme/\r.ar=a.ar/\r.aE=a.aE/\r.aK=a.aK/\r.aL=a.aL/\r.bU=a.bU/\r.aX=a.aX/\R r.dom a.dom
def ai.Reads(R:Value->List ByteArray->Prop)(r:ai Value)(g:ai (List ByteArray)):Prop :=
 r.o=g.o/\r.proxy=g.proxy/\r.user=g.user/\r.pass=g.pass/\r.a.Reads R g.a/\r.count=g.count/\R r.paths g.paths
theorem cQ.Reads.mono{R S:Value->List ByteArray->Prop}{r:cQ Value}{a:cQ (List ByteArray)}(h:r.Reads R a)(hs:∀v l,R v l->S v l):r.Reads S a :=
 ⟨h.1,h.2.1,h.2.2.1,h.2.2.2.1,h.2.2.2.2.1,h.2.2.2.2.2.1,h.2.2.2.2.2.2.1,hs _ _ h.2.2.2.2.2.2.2⟩
theorem ai.Reads.mono{R S:Value->List ByteArray->Prop}{r:ai Value}{g:ai (List ByteArray)}(h:r.Reads R g)(hs:∀v l,R v l->S v l):r.Reads S g :=
 ⟨h.1,h.2.1,h.2.2.1,h.2.2.2.1,h.2.2.2.2.1.mono hs,h.2.2.2.2.2.1,hs _ _ h.2.2.2.2.2.2⟩
def cO.eN(a b:cO):Bool:=a.ae==b.ae&&(a.host.toList==b.host.toList&&a.port==b.port)
theorem toList_inj{a b:ByteArray}:a.toList=b.toList↔a=b:=by
 constructor
 ·intro h;rw[Go.ByteArray.toList_eq,Go.ByteArray.toList_eq]at h;exact Go.WideShapes.bytes_inj h
 ·intro h;rw[h]
theorem cO.sW(a b:cO):a.eN b=true↔a=b:=by
 obtain⟨s,h,p⟩:=a;obtain⟨s',h',p'⟩:=b;simp only[cO.eN,Bool.and_eq_true,beq_iff_eq,cO.mk.injEq,toList_inj]
theorem ey(a b:cO)(w:World):(binOp .eql 24 (.agg #[.bool a.ae,.string a.host,.int .i64 a.port]) (.agg #[.bool b.ae,.string b.host,.int .i64 b.port])).run Tryz.prog w=.ok (.bool (a.eN b)) w:=by
 go_simp;by_cases h1:a.ae=b.ae<;>by_cases h2:a.host.toList=b.host.toList<;>by_cases h3:a.port=b.port<;>simp[cO.eN,h1,h2,h3]
theorem vO(a b:cO)(w:World):(binOp .neq 24 (.agg #[.bool a.ae,.string a.host,.int .i64 a.port]) (.agg #[.bool b.ae,.string b.host,.int .i64 b.port])).run Tryz.prog w=.ok (.bool (!a.eN b)) w:=by
 go_simp;by_cases h1:a.ae=b.ae<;>by_cases h2:a.host.toList=b.host.toList<;>by_cases h3:a.port=b.port<;>simp[cO.eN,h1,h2,h3]
def cB(x:List Value)(i:Nat):Bool:=match x[i]? with|some (.bool b)=>b|_=>false
def cS(x:List Value)(i:Nat):ByteArray:=match x[i]? with|some (.string s)=>s|_=>ByteArray.empty
def cI(x:List Value)(i:Nat):Int:=match x[i]? with|some (.int _ n)=>n|_=>0
def afv(x:List Value):cO:=⟨cB x 0,cS x 1,cI x 2⟩
theorem xb:∀(l:List UInt8) (c:UInt8),¬0<=Lib.indexByte l c↔ ∀x∈l,x≠c
 |[],c=>by simp[Lib.indexByte]
 |x :: l,c=>by
  have ih:=xb l c;have hge:=Lib.indexByte_ge l c;show¬0<=(if x==c then(0:Int)else if Lib.indexByte l c== -1 then -1 else Lib.indexByte l c+1)↔_;by_cases hx:x=c
  ·subst hx;simp
  ·rw[if_neg (by simpa using hx)];by_cases h1:Lib.indexByte l c= -1
   ·rw[if_pos (by simpa using h1)];constructor
    ·intro _ y hy;rcases List.mem_cons.1 hy with rfl|hy
     ·exact hx
     ·exact ih.1 (by rw[h1];decide) y hy
    ·intro _;decide
   ·rw[if_neg (by simpa using h1)];constructor
    ·intro h;omega
    ·intro h;have:=ih.2 (fun y hy=>h y (List.mem_cons_of_mem _ hy));omega
theorem DA(s:ByteArray)(c:UInt8)(i:Nat)(w:World)(hs:s.size<4398046511104)(hi:Lib.indexByte s.data.toList c=(i:Int))(hl:i<s.size) :
  Calls Tryz.prog 69 #[.string s,.string ⟨#[c]⟩] w fun e w'=>e=.returned (.tuple #[.string (s.extract 0 i),.string (s.extract (i+1) s.size),.bool true])/\∃n,w'=w.drewN n:=by
 have rk:Calls Tryz.prog 134 #[.string s,.string ⟨#[c]⟩] w fun e w'=>e=.returned (.tuple #[.string (s.extract 0 i),.string (s.extract (i+1) s.size),.bool true])/\∃n,w'=w.drewN n:=by
  have q0:(0:Int)<=(i:Int):=by omega
  have q1:(i:Int)<=(s.size:Int):=by omega
  have q2:(i:Int)+1<=(s.size:Int):=by omega
  have q3:(0:Int)<=(i:Int)+1:=by omega
  go_enter Tryz.func134,Tryz.ntmps134;go_wp2_with fail
  refine(Tryz.stringslite_Index_one s c w).mono ?_;rintro e w1⟨rfl,rfl⟩;rw[hi];go_wp2;go_quiet (fail);go_wp2
  go_ret3
  exact⟨rfl,_,rfl⟩
 go_enter Tryz.func69,Tryz.ntmps69;go_wp2_with fail
 refine rk.mono ?_;rintro e w1⟨rfl,n,rfl⟩;go_wp2
 go_ret3
 exact⟨rfl,n,rfl⟩
theorem z_(s:ByteArray)(c:UInt8)(w:World)(hi:¬0<=Lib.indexByte s.data.toList c) :
  Calls Tryz.prog 69 #[.string s,.string ⟨#[c]⟩] w fun e w'=>e=.returned (.tuple #[.string s,.string ⟨#[]⟩,.bool false])/\w'=w:=by
 have rk:Calls Tryz.prog 134 #[.string s,.string ⟨#[c]⟩] w fun e w'=>e=.returned (.tuple #[.string s,.string ⟨#[]⟩,.bool false])/\w'=w:=by
  go_enter Tryz.func134,Tryz.ntmps134;go_wp2_with fail
  refine(Tryz.stringslite_Index_one s c w).mono ?_;rintro e w1⟨rfl,rfl⟩;go_wp2
  go_ret3
  exact⟨rfl,rfl⟩
 go_enter Tryz.func69,Tryz.ntmps69;go_wp2_with fail
 refine rk.mono ?_;rintro e w1⟨rfl,rfl⟩;go_wp2
 go_ret3
 exact⟨rfl,rfl⟩
open Go.RowKit Go.Sort
def oa(ls:List (List UInt8)):List (List UInt8):=ls.mergeSort fun x y=>decide (x<=y)
theorem NH(base:Nat)(v:Value)(ls:List (List UInt8))(w:World)(h:w.ownsRow base 9 1 v ls.length (ls.map encStr))(hl:ls.length<1000000) :
  Calls Tryz.prog 208 #[v] w fun e w'=>e=.returned (.tuple #[])/\w'.ownsRow base 9 1 v ls.length ((oa ls).map encStr)/\w.grownBy w' v.ownBlock:=by
 rcases h.2 with ⟨rfl,h0⟩|⟨g,cap,cur,rfl,eI,hb,h1,h2,h3,h4⟩
 ·obtain rfl:ls=[]:=List.length_eq_zero_iff.1 h0;refine(Tryz.slices_Sort_string_none none 0 w).mono ?_;rintro e w'⟨rfl,rfl⟩;exact⟨rfl,by rw[show oa []=[]by simp[oa]];exact h,⟨rfl,rfl,rfl,Nat.le_refl _,fun _ _ _=>rfl⟩⟩
 ·refine(Tryz.slices_Sort_string g 0 cap ls w (holds_of_block hb (by simpa using h4)) (aj hb) (by omega)).mono ?_;rintro e w'⟨rfl,n,os,rfl⟩;exact⟨rfl,ownsRow_sorted (by simp) eI hb h1 h2 h3,grownBy_sorted _⟩
theorem DC(base:Nat)(v:Value)(ls:List (List UInt8))(w:World)(h:w.ownsRow base 9 1 v ls.length (ls.map encStr))(hl:ls.length<1000000) :
  Calls Tryz.prog 209 #[v] w fun e w'=>∃u,e=.returned u/\w'.ownsRow base 9 1 u (Lib.compact ls).length ((Lib.compact ls).map encStr)/\w.grownBy w' v.ownBlock:=by
 rcases h.2 with ⟨rfl,h0⟩|⟨g,cap,cur,rfl,eI,hb,h1,h2,h3,h4⟩
 ·obtain rfl:ls=[]:=List.length_eq_zero_iff.1 h0;refine(Tryz.slices_Compact_string_empty none 0 w).mono ?_;rintro e w'⟨rfl,rfl⟩;exact⟨_,rfl,h,⟨rfl,rfl,rfl,Nat.le_refl _,fun _ _ _=>rfl⟩⟩
 ·refine(Tryz.slices_Compact_string g 0 cap ls w (holds_of_block hb (by simpa using h4)) (by omega) h1).mono ?_;have hle:=Lib.compact_length_le ls;obtain⟨ts,hts⟩:∃ts:List (List UInt8),ts=Lib.compact ls++List.replicate (ls.length-(Lib.compact ls).length) []:=⟨_,rfl⟩;have hlen:ts.length=ls.length:=by rw[hts,List.length_append,List.length_replicate];omega
  rw[<-hts];rintro e w'⟨rfl,q,rfl⟩;have hw:=heap_sorted (n:=q) (os:= #[]) ts.toArray hb;have hg:=grownBy_sorted (w:=w) (g:=g) (n:=q) (os:= #[]) ts.toArray;rw[grow_empty]at hw hg;have tk:=take_putCells cur ts (by omega);refine⟨_,rfl,⟨by simp,.inr ⟨g,cap,_,rfl,eI,hw,by omega,h2,by simp[putCells,h3],?_⟩⟩,hg⟩
  have e1:(putCells encStr 0 ts.toArray cur).toList.take (Lib.compact ls).length=((putCells encStr 0 ts.toArray cur).toList.take ts.length).take (Lib.compact ls).length:=by
   rw[List.take_take,Nat.min_eq_left (by omega)]
  rw[Nat.mul_one,e1,tk,hts,List.map_append,List.take_left' (by simp)]
end Go.Proofs.YtjdmjbdkdmbaiaaGreatDoor
