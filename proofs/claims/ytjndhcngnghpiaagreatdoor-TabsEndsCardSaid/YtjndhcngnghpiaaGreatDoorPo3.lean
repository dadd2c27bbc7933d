/- Lemmas for the law's walk. -/
import Derived.Test.YtjndhcngnghpiaaGreatDoorPo2
import Derived.Laws.AppendOwnNone
set_option maxRecDepth 100000
set_option maxHeartbeats 16000000
set_option linter.unusedSimpArgs false
namespace Go.Proofs.YtjndhcngnghpiaaGreatDoor
open Go.Proofs.Tryz
open Go.RowKit
variable {w w':World} {g k base:Nat} {p:UInt8->Bool} {x:UInt8} {R:Value->List ai->Prop} {S:dz} {v:Value} {ss:List ai}
def Oo(a b c d:UInt8):Int:=bits .or .u32 (bits .or .u32 (bits .or .u32 ((a.toNat:Int)%4294967296) ((b.toNat:Int)%4294967296*256%4294967296)) ((c.toNat:Int)%4294967296*65536%4294967296)) ((d.toNat:Int)%4294967296*16777216%4294967296)
def Ek(l:aH)(i:Nat):UInt8:=l.getD i 0
def qt(dK:Bool)(l:aH):Int:=if dK then Oo (Ek l 0) (Ek l 1) (Ek l 2) (Ek l 3)else Oo (Ek l 3) (Ek l 2) (Ek l 1) (Ek l 0)
theorem sa(s:ai)(i:Nat)(h:i<s.size):Ek s.data.toList i=s[i]:=by
 unfold Ek;rw[List.getD_eq_getElem?_getD,byte_at s i h];rfl
theorem Oq{a b:Int}(h:a=b):Ending.returned (.int .u32 a)=.returned (.int .u32 b):=by rw[h]
theorem vI(s:ai)(dK:Bool)(w:World)(hs:4<=s.size)(Ci:s.size<17592186044416) :
  aC 238 #[.string s,.bool dK] w fun e w'=>e=.returned (.int .u32 (qt dK s.data.toList))/\∃n,w'=w.drewN n:=by
 have h0:0<s.size:=ab;have h1:1<s.size:=ab;have h2:2<s.size:=ab;have h3:3<s.size:=ab
 have HWF:=O (show qt false s.data.toList=bits .or .u32 (bits .or .u32 (bits .or .u32 ((s[3].toNat:Int)%4294967296) ((s[2].toNat:Int)%4294967296*256%4294967296)) ((s[1].toNat:Int)%4294967296*65536%4294967296)) ((s[0].toNat:Int)%4294967296*16777216%4294967296)by rw[<-sa s 0 h0, <-sa s 1 h1, <-sa s 2 h2, <-sa s 3 h3];unfold qt Oo;rw[ar ag])
 have HWT:=O (show qt true s.data.toList=bits .or .u32 (bits .or .u32 (bits .or .u32 ((s[0].toNat:Int)%4294967296) ((s[1].toNat:Int)%4294967296*256%4294967296)) ((s[2].toNat:Int)%4294967296*65536%4294967296)) ((s[3].toNat:Int)%4294967296*16777216%4294967296)by rw[<-sa s 0 h0, <-sa s 1 h1, <-sa s 2 h2, <-sa s 3 h3];unfold qt Oo;rw[aA rfl]);cases dK
 ·go_enter func238,ntmps238;go_wp2;have i0:(0:Int)<(s.size:Int):=ab;have i1:(1:Int)<(s.size:Int):=ab;have i2:(2:Int)<(s.size:Int):=ab;have i3:(3:Int)<(s.size:Int):=ab;go_quiet (fail);go_wp2;go_ret;exact⟨Oq HWF.o.symm,_,rfl⟩
 ·go_enter func238,ntmps238;go_wp2;have i0:(0:Int)<(s.size:Int):=ab;have i1:(1:Int)<(s.size:Int):=ab;have i2:(2:Int)<(s.size:Int):=ab;have i3:(3:Int)<(s.size:Int):=ab;go_quiet (fail);go_wp2;go_ret;exact⟨Oq HWT.o.symm,_,rfl⟩
def lN(x:Int)(n:Nat):Int:=bits .or .u32 (x*2^n%4294967296) (x/2^(32-n))
theorem BZ(x k:Int)(n:Nat)(w:World)(hk:0<=k)(rM:k<32)(hb:bits .and .u64 k 31=(n:Int))(hn:n<32) :
  aC 239 #[.int .u32 x,.int .i64 k] w fun e w'=>e=.returned (.int .u32 (lN x n))/\w=w':=by
 go_enter func239,ntmps239;go_wp2;go_ret;exact⟨rfl,rfl⟩
theorem XB(x k:Int)(n:Nat)(w:World)(hk: -32<k)(rM:k<0)(hb:bits .and .u64 (k+18446744073709551616) 31=(n:Int))(hn:n<32) :
  aC 239 #[.int .u32 x,.int .i64 k] w fun e w'=>e=.returned (.int .u32 (lN x n))/\w=w':=by
 have hw:IntKind.u64.wrap k=k+18446744073709551616:=by
  have e:IntKind.u64.wrap k=k%18446744073709551616:=by simp[IntKind.wrap,IntKind.signed,IntKind.bits]
  rw[e];omega
 go_enter func239,ntmps239;go_wp2;go_ret;exact⟨rfl,rfl⟩
def tY(dK:Bool)(n i:Nat):UInt8:=if dK then(n/2^(8*i)%256).toUInt8 else(n/2^(56-8*i)%256).toUInt8
def xN(dK:Bool)(n:Nat):aH:=(List.range 8).map (tY dK n)
def uR(dK:Bool)(l:aH):aH:=l++[128]++List.replicate ((55-(l.length:Int)%64+64)%64).toNat 0++xN dK (l.length*8)
theorem afp(w:World):(Instr.makeSlice 187 (.int .i64 8) (.int .i64 8)).run prog w=.ok (.slice (some ⟨w.heap.size,0,none⟩) 8 8) (w.alloc (.cells (tK (List.replicate 8 0)).toArray 5)):=by
 obtain⟨i0,hi,oZ,kI,kS⟩:=info_parts NU;have h:=run_makeSlice w 187 5 i0 (.int .u8 0) underlying187 hi oZ .i64 .i64 8 8 ag ag (by rw[kI];decide) (by rw[kS];decide) ag;rw[kI]at h;have e:madeCells (Value.int .u8 0).cells (Int.toNat 8*1)=(tK (List.replicate 8 0)).toArray:=af;rw[e]at h;exact h
def xO(w:World)(g:Nat)(l:aH):Prop:=w.heap[g]?=some (.cells (tK l).toArray 5 (0,0))
theorem xO.cell{l:aH}(h:xO w g l){j:Nat}{c:UInt8}(hj:l[j]?=some c):w.cell? ⟨g,j,none⟩=some (.int .u8 (c.toNat:Int)):=by
 obtain⟨hl,he⟩:=List.getElem?_eq_some_iff.1 hj;unfold xO at h;simp only[World.cell?,h];simp[tK,hl,he]
theorem xO.free{l:aH}(h:xO w g l)(j:Nat):w.frozen? ⟨g,j,none⟩=false:=by
 unfold xO at h;simp[World.frozen?,h]
theorem xO.set{l:aH}(h:xO w g l)(j:Nat)(c:UInt8):xO (w.setCell ⟨g,j,none⟩ (.int .u8 (c.toNat:Int))) g (l.set j c):=by
 unfold xO at h ⊢;simp only[World.setCell,Array.getElem?_modify,h];simp[tK,List.map_set]
theorem xO.text{l:aH}(h:xO w g l)(n c:Nat)(hn:n=l.length) :
  (convert 187 9 (.slice (some ⟨g,0,none⟩) n c)).run prog w=.ok (.string ⟨l.toArray⟩) w:=by
 subst hn;refine run_convert_bytes_back (P:=prog) w 187 9 5 ⟨g,0,none⟩ c l underlying187 underlying5 underlying9 ?_;intro j hj;have ea:(Addr.add ⟨g,0,none⟩ j)=⟨g,j,none⟩:=by unfold Addr.add;split<;>simp_all
 rw[ea];exact h.cell (List.getElem?_eq_getElem hj)
theorem nj(dK:Bool)(n:Nat):(xN dK n).length=8:=by simp[xN]
def tz(dK:Bool)(n k:Nat):aH:=(xN dK n).take k++List.replicate (8-k) 0
theorem CO(dK:Bool)(n k:Nat)(hk:k<8):tz dK n (k+1)=(tz dK n k).set k (tY dK n k):=by
 have hg:(xN dK n)[k]?=some (tY dK n k):=by simp[xN,hk]
 unfold tz;rw[ct,hg];have e:List.replicate (8-k) (0:UInt8)=0 :: List.replicate (8-(k+1)) 0:=by
  rw[show 8-k=(8-(k+1))+1 from ab,List.replicate_succ]
 rw[e,List.set_append,ar (by rw[aL,nj];omega)];rw[show k-((xN dK n).take k).length=0 from by rw[aL,nj];omega];simp
theorem Fa(dK:Bool)(n:Nat):tz dK n 8=xN dK n:=by
 unfold tz;rw[aD (by rw[nj];omega)];simp
theorem CP:∀(k:Nat),(Lib.repeatL [0] k).length=k
 |0=>rfl
 |k+1=>by
  show(([0]:aH)++Lib.repeatL [0] k).length=k+1;rw[aM,CP k];simp;omega
theorem Fb:∀(k:Nat),Lib.repeatL [0] k=List.replicate k (0:UInt8)
 |0=>rfl
 |k+1=>by
  show([0]:aH)++Lib.repeatL [0] k=_;rw[Fb k,List.replicate_succ];rfl
theorem Fc(n e:Nat):(((n/2^e%256).toUInt8.toNat:Nat):Int)=(n:Int)/2^e%256:=by
 rw[show(n/2^e%256).toUInt8.toNat=n/2^e%256 from by simp[Nat.toUInt8]];rw[Int.natCast_emod,Int.natCast_ediv,Int.natCast_pow];rfl
def S'(dK:Bool)(n g:Nat)(w:World)(i:Value)(wr:World):Prop:=∃k:Nat,k<=8/\i=.int .i64 k/\xO wr g (tz dK n k)/\Fr aW w wr
theorem Ot(s:ai)(dK:Bool)(w:World)(hs:s.size<17592186044416) :
  aC 237 #[.string s,.bool dK] w fun e w'=>e=.returned (.string ⟨(uR dK s.data.toList).toArray⟩)/\Fr aW w w':=by
 obtain⟨q,hq⟩:∃q:Nat,(55-(s.size:Int))%64=(q:Int):=⟨((55-(s.size:Int))%64).toNat,ab⟩;have arG:q<64:=ab;have afq:=O (show uR dK s.data.toList=s.data.toList++[128]++Lib.repeatL [0] q++xN dK (s.size*8)by
  unfold uR;rw[Fb,show s.data.toList.length=s.size from aQ,show((55-(s.size:Int)%64+64)%64).toNat=q from ab])
 have uQ:=CP q;have N9:=fun W=>afp W;go_enter func237,ntmps237;go_wp2_with fail
 refine(strings_Repeat ⟨#[0]⟩ q w ab (by show 1*q<=_;omega)).mono ?_;rintro e w1⟨rfl,sJ⟩;have XC:¬9223372036854775807<s.size+1+(Lib.repeatL [0] q).length:=ab;have dn:=fe sJ;have HL:=O uQ;clear uQ sJ;have ZX:xO (w1.alloc (.cells (tK (List.replicate 8 0)).toArray 5)) w1.heap.size (tz dK (s.size*8) 0):=by
  unfold xO;rw[aB];rfl
 have HR0:=O ZX;have Bp:=dn.size;clear ZX;cases dK
 ·go_wp2;clear N9;go_loopw[26] (S' false (s.size*8) w1.heap.size w) (fun i _=>8-(intOf i).toNat)
  case atStart=>exact⟨0,ab,rfl,HR0.o,dn.alloc _⟩
  case round =>
   obtain⟨k,hk,rfl,lL,cN⟩:=hrel;by_cases fx:k<8
   ·have hlen:(tz false (s.size*8) k).length=8:=by unfold tz;rw[aM,aL,nj,fb];omega
    have hc:=lL.cell (List.getElem?_eq_getElem (show k<(tz false (s.size*8) k).length from ab));have hf:=lL.free k;have qp:(k:Int)<8:=ab;have qz:=O (lL.set k (tY false (s.size*8) k));have hsc:=O (CO false (s.size*8) k fx);have WE:=O (show((tY false (s.size*8) k).toNat:Int)=(s.size:Int)*8/2^(56-8*k)%256 from(Fc (s.size*8) (56-8*k)).trans (by rw[Int.natCast_mul];rfl));go_wp2;go_roundw
    case rel=>exact⟨k+1,ab,bf,by rw[hsc.o];have h:=qz.o;rw[WE.o]at h;exact h,cN.gI (p:=⟨w1.heap.size,k,none⟩) Bp _⟩
    case measure=>simp[intOf];omega
   ·have hk8:k=8:=ab;subst hk8;rw[Fa]at lL;have AJ:=lL.text 8 8 (by rw[nj]);have Ls:(xN false (s.size*8)).length=8:=nj _ _;have afr:¬9223372036854775807<s.size+1+(Lib.repeatL [0] q).length+(xN false (s.size*8)).length:=by have:=HL.o;omega
    have eX:=O (show(s++⟨#[128]⟩++⟨(Lib.repeatL [0] q).toArray⟩++⟨(xN false (s.size*8)).toArray⟩:ai)=⟨(uR false s.data.toList).toArray⟩from by
     apply Go.WideShapes.bytes_inj;rw[afq.o];simp[gD])
    go_wp2;go_ret;exact⟨by rw[<-eX.o];rfl,cN⟩
 ·go_wp2;clear N9;go_loopw[26] (S' true (s.size*8) w1.heap.size w) (fun i _=>8-(intOf i).toNat)
  case atStart=>exact⟨0,ab,rfl,HR0.o,dn.alloc _⟩
  case round =>
   obtain⟨k,hk,rfl,lL,cN⟩:=hrel;by_cases fx:k<8
   ·have hlen:(tz true (s.size*8) k).length=8:=by unfold tz;rw[aM,aL,nj,fb];omega
    have hc:=lL.cell (List.getElem?_eq_getElem (show k<(tz true (s.size*8) k).length from ab));have hf:=lL.free k;have qp:(k:Int)<8:=ab;have qz:=O (lL.set k (tY true (s.size*8) k));have hsc:=O (CO true (s.size*8) k fx);have WE:=O (show((tY true (s.size*8) k).toNat:Int)=(s.size:Int)*8/2^(8*k)%256 from(Fc (s.size*8) (8*k)).trans (by rw[Int.natCast_mul];rfl));go_wp2;go_roundw
    case rel=>exact⟨k+1,ab,bf,by rw[hsc.o];have h:=qz.o;rw[WE.o]at h;exact h,cN.gI (p:=⟨w1.heap.size,k,none⟩) Bp _⟩
    case measure=>simp[intOf];omega
   ·have hk8:k=8:=ab;subst hk8;rw[Fa]at lL;have AJ:=lL.text 8 8 (by rw[nj]);have Ls:(xN true (s.size*8)).length=8:=nj _ _;have afr:¬9223372036854775807<s.size+1+(Lib.repeatL [0] q).length+(xN true (s.size*8)).length:=by have:=HL.o;omega
    have eX:=O (show(s++⟨#[128]⟩++⟨(Lib.repeatL [0] q).toArray⟩++⟨(xN true (s.size*8)).toArray⟩:ai)=⟨(uR true s.data.toList).toArray⟩from by
     apply Go.WideShapes.bytes_inj;rw[afq.o];simp[gD])
    go_wp2;go_ret;exact⟨by rw[<-eX.o];rfl,cN⟩
def zY(l:aH):Bool:=l.all fM&&!l.isEmpty
theorem wY{l:aH}(h:l[k]?=some x):(l.take (k+1)).all p=((l.take k).all p&&p x):=by
 rw[ct,h];simp
theorem yt{l:aH}(h:l[k]?=some x)(hp:p x=false):l.all p=false:=by
 rw[iU];exact⟨x,cA h,by simp[hp]⟩
theorem Cg(s:ai)(w:World)(hs:s.size<17592186044416) :
  aC 96 #[.string s] w fun e w'=>e=.returned (.bool (zY s.data.toList))/\w=w':=by
 go_enter func96,ntmps96;go_wp2
 go_loop [6] (fun i=>∃k:Nat,k<=s.size/\i=.int .i64 k/\(s.data.toList.take k).all fM=true) (fun i=>s.size-(intOf i).toNat)
 case atStart=>exact⟨0,aS _,rfl,aQ⟩
 case round =>
  obtain⟨k,hk,rfl,iE⟩:=hrel;have IV:=O iE;clear iE;by_cases fx:k<s.size
  ·have dL:=O (byte_at s k fx);generalize hx:s[k]=x at dL;cases e1:fM x
   ·have eX:=O (show zY s.data.toList=false by unfold zY;rw[yt dL.o e1];rfl);go_wp2_with (go_at_call 153;refine(yp _ _).mono ?_;rintro e w' ⟨rfl,rfl⟩)
    go_ret;rw[eX.o];exact⟨rfl,rfl⟩
   ·have pN:=O (show(s.data.toList.take (k+1)).all fM=true by rw[wY dL.o,IV.o,e1];rfl);go_wp2_with (go_at_call 153;refine(yp _ _).mono ?_;rintro e w' ⟨rfl,rfl⟩)
    go_round
    case rel=>exact⟨k+1,ab,bf,pN.o⟩
    case measure=>simp[intOf];omega
  ·have N1:=O (show s.data.toList.all fM=true by have h:=IV.o;rw[aD bF]at h;exact h);go_wp2;go_ret;refine⟨ft ?_,rfl⟩;unfold zY;rw[N1.o,aN];simp
def sI(l:aH):aH:=l.flatMap (fun c=>if c==34||c==92 then [92,c]else [c])
def fI(l:aH):aH:=34 :: (sI l++[34])
theorem N2(l:aH):(sI l).length<=2*l.length:=by
 induction l with
 |nil=>simp[sI]
 |cons c l ih=>simp[sI]at ih ⊢; split<;>simp<;>omega
theorem Pj{l:aH}(h:l[k]?=some x):sI (l.take (k+1))=sI (l.take k)++(if x==34||x==92 then [92,x]else [x]):=by
 rw[ct,h];simp[sI]
def nQ(l:aH):Bool:=l.all ng
def Pk(s:ai)(w:World)(e:Ending)(w':World):Prop :=
 e=.returned (.tuple (if nQ s.data.toList then #[.string ⟨(fI s.data.toList).toArray⟩,.nilIface]else #[.string ⟨#[]⟩,.iface 82 (.int .i64 3)]))/\Fr aW w w'
def ae1(s:ai)(w:World)(v i:Value)(wr:World):Prop :=
 ∃k:Nat,k<=s.size/\i=.int .i64 k/\Bytes w.heap.size wr v (34 :: sI (s.data.toList.take k))/\Fr aW w wr/\(s.data.toList.take k).all ng=true
theorem EF(s:ai)(w:World)(hs:s.size<17592186044416) :
  aC 107 #[.string s] w (Pk s w):=by
 go_enter func107,ntmps107;go_wp2;go_loopw[4,9] (ae1 s w) (fun _ i _=>s.size-(intOf i).toNat)
 case atStart =>
  exact⟨0,aS _,rfl,Bytes.akH w 34,(ae _ _).alloc _,aQ⟩
 case round =>
  obtain⟨k,hk,rfl,cO,cN,iE⟩:=hrel;have IV:=O iE;clear iE;have il:w.heap.size<=wr.heap.size:=cN.size;have WY:=O (show(sI (s.data.toList.take k)).length<=2*k from aE (N2 _) (Nat.mul_le_mul_left 2 bF));obtain⟨av,cv,hv⟩:=cO.form;subst hv;by_cases fx:k<s.size
  ·have dL:=O (byte_at s k fx);generalize hx:s[k]=x at dL;cases e1:ng x
   ·have eX:=O (show nQ s.data.toList=false from yt dL.o e1);go_wp2_with (go_at_call 159;refine(pK _ _).mono ?_;rintro e w' ⟨rfl,rfl⟩)
    go_ret2;refine⟨?_,cN⟩;rw[eX.o];rfl
   ·have pN:=O (show(s.data.toList.take (k+1)).all ng=true by rw[wY dL.o,IV.o,e1];rfl);have Pm:=O (Pj dL.o);cases e2:x==34
    ·cases e3:x==92
     ·have n1:((x.toNat:Int)==34)=false:=by rw[<-e2];exact uF 34 ag
      have n2:((x.toNat:Int)==92)=false:=by rw[<-e3];exact uF 92 ag
      have Sl:=O (show sI (s.data.toList.take (k+1))=sI (s.data.toList.take k)++[x]by rw[Pm.o,e2,e3];rfl);clear e2 e3
      go_wp2_with (first|(at_builtin;refine jT (o:=⟨some 36,_,_,_,_,_⟩) rfl _ _ rfl w.heap.size (.slice av _ cv) (34 :: sI (s.data.toList.take k)) rfl (by apply gl;exact cO) ⟨wr.heap.size,0,none⟩ 1 x rfl (je _ _ _ _) (by have:=WY.o;simp;omega) bF ?_;intro v' w2 fu yr)|(go_at_call 159;refine(pK _ _).mono ?_;rintro e w' ⟨rfl,rfl⟩))
      go_roundw
      case rel=>exact⟨k+1,ab,bf,by rw[Sl.o];exact fu,(cN.alloc _).fH yr cO.block,pN.o⟩
      case measure=>simp[intOf];omega
     ·have n1:((x.toNat:Int)==34)=false:=by rw[<-e2];exact uF 34 ag
      have n2:((x.toNat:Int)==92)=true:=by rw[<-e3];exact uF 92 ag
      have Sl:=O (show sI (s.data.toList.take (k+1))=sI (s.data.toList.take k)++[92,x]by rw[Pm.o];simp only[e2,e3,jZ,dY]);clear e2 e3
      go_wp2_with (first|(at_builtin;refine jT (o:=⟨some 30,_,_,_,_,_⟩) rfl _ _ rfl w.heap.size (.slice av _ cv) (34 :: sI (s.data.toList.take k)) rfl (by apply gl;exact cO) ⟨wr.heap.size,0,none⟩ 1 92 rfl (je _ _ _ _) (by have:=WY.o;simp;omega) bF ?_;intro v1 w1 qY IW;have sJ:wr.heap.size+1<=w1.heap.size:=by simpa using IW.size)|(at_builtin;refine jT (o:=⟨some 36,_,_,_,_,_⟩) rfl _ _ rfl w.heap.size v1 (34 :: sI (s.data.toList.take k)++[92]) rfl (by apply gl;exact qY) ⟨w1.heap.size,0,none⟩ 1 x rfl (je _ _ _ _) (by have:=WY.o;simp;omega) bF ?_;intro v' w2 fu yr)|(go_at_call 159;refine(pK _ _).mono ?_;rintro e w' ⟨rfl,rfl⟩))
      go_roundw
      case rel=>exact⟨k+1,ab,bf,by rw[Sl.o];simpa using fu,((((cN.alloc _).fH IW cO.block).alloc _).fH yr qY.block),pN.o⟩
      case measure=>simp[intOf];omega
    ·have n1:((x.toNat:Int)==34)=true:=by rw[<-e2];exact uF 34 ag
     have Sl:=O (show sI (s.data.toList.take (k+1))=sI (s.data.toList.take k)++[92,x]by rw[Pm.o];simp only[e2,Bool.true_or,dY]);clear e2
     go_wp2_with (first|(at_builtin;refine jT (o:=⟨some 30,_,_,_,_,_⟩) rfl _ _ rfl w.heap.size (.slice av _ cv) (34 :: sI (s.data.toList.take k)) rfl (by apply gl;exact cO) ⟨wr.heap.size,0,none⟩ 1 92 rfl (je _ _ _ _) (by have:=WY.o;simp;omega) bF ?_;intro v1 w1 qY IW;have sJ:wr.heap.size+1<=w1.heap.size:=by simpa using IW.size)|(at_builtin;refine jT (o:=⟨some 36,_,_,_,_,_⟩) rfl _ _ rfl w.heap.size v1 (34 :: sI (s.data.toList.take k)++[92]) rfl (by apply gl;exact qY) ⟨w1.heap.size,0,none⟩ 1 x rfl (je _ _ _ _) (by have:=WY.o;simp;omega) bF ?_;intro v' w2 fu yr)|(go_at_call 159;refine(pK _ _).mono ?_;rintro e w' ⟨rfl,rfl⟩))
     go_roundw
     case rel=>exact⟨k+1,ab,bf,by rw[Sl.o];simpa using fu,((((cN.alloc _).fH IW cO.block).alloc _).fH yr qY.block),pN.o⟩
     case measure=>simp[intOf];omega
  ·have N1:=O (show s.data.toList.take k=s.data.toList from aD bF)
   go_wp2_with (at_builtin;refine jT (o:=⟨some 40,_,_,_,_,_⟩) rfl _ _ rfl w.heap.size (.slice av _ cv) (34 :: sI (s.data.toList.take k)) rfl (by apply gl;exact cO) ⟨wr.heap.size,0,none⟩ 1 34 rfl (je _ _ _ _) (by have:=WY.o;simp;omega) bF ?_;intro v1 w1 qY IW;obtain⟨a1,c1,H'⟩:=qY.form;subst H';have ht1:=qY.text;simp only[aM,List.length_cons,List.length_nil,bj]at ht1)
   go_ret2;refine⟨?_,(cN.alloc _).fH IW cO.block⟩;have ae2:nQ s.data.toList=true:=by rw[<-N1.o];exact IV.o
   rw[aA ae2,N1.o];rfl
abbrev bE:=List ai
structure gy where
 aG:Bool
 host:ai
 port:Int
def gy.cells(o:gy):aX:=[.bool o.aG,.string o.host,.int .i64 o.port]
structure fY (D:Type) where
 scheme:Int
 aP:ai
 bz:ai
 cC:ai
 cD:Bool
 eY:ai
 du:Bool
 dom:D
def fY.cells(a:fY Value):aX:=[.int .i64 a.scheme,.string a.aP,.string a.bz,.string a.cC,.bool a.cD,.string a.eY,.bool a.du,a.dom]
structure aU (D:Type) where
 o:gy
 proxy:Bool
 user:ai
 pass:ai
 a:fY D
 count:Int
 paths:D
def aU.cells(g:aU Value):aX :=
 [.bool g.o.aG,.string g.o.host,.int .i64 g.o.port,.bool g.proxy,.string g.user,.string g.pass,
  .int .i64 g.a.scheme,.string g.a.aP,.string g.a.bz,.string g.a.cC,.bool g.a.cD,.string g.a.eY,.bool g.a.du,g.a.dom,.int .i64 g.count,g.paths]
def fY.Reads(R:Value->List ai->Prop)(r:fY Value)(a:fY (List ai)):Prop :=
 r.scheme=a.scheme/\r.aP=a.aP/\r.bz=a.bz/\r.cC=a.cC/\r.cD=a.cD/\r.eY=a.eY/\r.du=a.du/\R r.dom a.dom
def aU.Reads(R:Value->List ai->Prop)(r:aU Value)(g:aU (List ai)):Prop :=
 r.o=g.o/\r.proxy=g.proxy/\r.user=g.user/\r.pass=g.pass/\r.a.Reads R g.a/\r.count=g.count/\R r.paths g.paths
theorem fY.Reads.mono{S:Value->List ai->Prop}{r:fY Value}{a:fY (List ai)}(h:r.Reads R a)(hs:∀v l,R v l->S v l):r.Reads S a :=
 ⟨h.1,h.2.1,h.2.2.1,h.2.2.2.1,h.2.2.2.2.1,h.2.2.2.2.2.1,h.2.2.2.2.2.2.1,hs _ _ h.2.2.2.2.2.2.2⟩
theorem aU.Reads.mono{S:Value->List ai->Prop}{r:aU Value}{g:aU (List ai)}(h:r.Reads R g)(hs:∀v l,R v l->S v l):r.Reads S g :=
 ⟨h.1,h.2.1,h.2.2.1,h.2.2.2.1,h.2.2.2.2.1.mono hs,h.2.2.2.2.2.1,hs _ _ h.2.2.2.2.2.2⟩
def gy.kQ(a b:gy):Bool:=a.aG==b.aG&&(a.host.toList==b.host.toList&&a.port==b.port)
theorem toList_inj{a b:ai}:a.toList=b.toList↔a=b:=by
 constructor
 ·intro h;rw[Go.ByteArray.toList_eq,Go.ByteArray.toList_eq]at h;exact Go.WideShapes.bytes_inj h
 ·intro h;rw[h]
theorem gy.yw(a b:gy):a.kQ b=true↔a=b:=by
 obtain⟨s,h,p⟩:=a;obtain⟨s',h',p'⟩:=b;simp only[gy.kQ,cy,dQ,gy.mk.injEq,toList_inj]
theorem jW(a b:gy)(w:World):(binOp .eql 24 (.agg #[.bool a.aG,.string a.host,.int .i64 a.port]) (.agg #[.bool b.aG,.string b.host,.int .i64 b.port])).run prog w=.ok (.bool (a.kQ b)) w:=by
 go_simp;by_cases h1:a.aG=b.aG<;>by_cases h2:a.host.toList=b.host.toList<;>by_cases h3:a.port=b.port<;>simp[gy.kQ,h1,h2,h3]
theorem AR(a b:gy)(w:World):(binOp .neq 24 (.agg #[.bool a.aG,.string a.host,.int .i64 a.port]) (.agg #[.bool b.aG,.string b.host,.int .i64 b.port])).run prog w=.ok (.bool (!a.kQ b)) w:=by
 go_simp;by_cases h1:a.aG=b.aG<;>by_cases h2:a.host.toList=b.host.toList<;>by_cases h3:a.port=b.port<;>simp[gy.kQ,h1,h2,h3]
def cB(x:aX)(i:Nat):Bool:=match x[i]? with|some (.bool b)=>b|_=>false
def cS(x:aX)(i:Nat):ai:=match x[i]? with|some (.string s)=>s|_=>ByteArray.empty
def cI(x:aX)(i:Nat):Int:=match x[i]? with|some (.int _ n)=>n|_=>0
def ae6(x:aX):gy:=⟨cB x 0,cS x 1,cI x 2⟩
theorem Gq:∀(l:aH) (c:UInt8),¬0<=Lib.indexByte l c↔ ∀x∈l,x≠c
 |[],c=>by simp[Lib.indexByte]
 |x :: l,c=>by
  have ih:=Gq l c;have hge:=Lib.indexByte_ge l c;show¬0<=(if x==c then(0:Int)else if Lib.indexByte l c== -1 then -1 else Lib.indexByte l c+1)↔_;by_cases hx:x=c
  ·subst hx;simp
  ·rw[ar (by simpa using hx)];by_cases h1:Lib.indexByte l c= -1
   ·rw[aA (by simpa using h1)];constructor
    ·intro _ y hy;rcases bu.1 hy with rfl|hy
     ·exact hx
     ·exact ih.1 (by rw[h1];decide) y hy
    ·intro _;decide
   ·rw[ar (by simpa using h1)];constructor
    ·intro h;omega
    ·intro h;have:=ih.2 (fun y hy=>h y (bO _ hy));omega
theorem Jd(s:ai)(c:UInt8)(i:Nat)(w:World)(hs:s.size<4398046511104)(hi:Lib.indexByte s.data.toList c=(i:Int))(hl:i<s.size) :
  aC 133 #[.string s,.string ⟨#[c]⟩] w fun e w'=>e=.returned (.tuple #[.string (s.extract 0 i),.string (s.extract (i+1) s.size),.bool true])/\∃n,w'=w.drewN n:=by
 have V5:aC 187 #[.string s,.string ⟨#[c]⟩] w fun e w'=>e=.returned (.tuple #[.string (s.extract 0 i),.string (s.extract (i+1) s.size),.bool true])/\∃n,w'=w.drewN n:=by
  have q0:(0:Int)<=(i:Int):=ab;have q1:(i:Int)<=(s.size:Int):=ab;have q2:(i:Int)+1<=(s.size:Int):=ab;have q3:(0:Int)<=(i:Int)+1:=ab;go_enter func187,ntmps187;go_wp2_with fail
  refine(stringslite_Index_one s c w).mono ?_;rintro e w1⟨rfl,rfl⟩;rw[hi];go_wp2;go_quiet (fail);go_wp2
  go_ret3
  exact⟨rfl,_,rfl⟩
 go_enter func133,ntmps133;go_wp2_with fail
 refine V5.mono ?_;rintro e w1⟨rfl,n,rfl⟩;go_wp2
 go_ret3
 exact⟨rfl,n,rfl⟩
theorem EO(s:ai)(c:UInt8)(w:World)(hi:¬0<=Lib.indexByte s.data.toList c) :
  aC 133 #[.string s,.string ⟨#[c]⟩] w fun e w'=>e=.returned (.tuple #[.string s,.string ⟨#[]⟩,.bool false])/\w'=w:=by
 have V5:aC 187 #[.string s,.string ⟨#[c]⟩] w fun e w'=>e=.returned (.tuple #[.string s,.string ⟨#[]⟩,.bool false])/\w'=w:=by
  go_enter func187,ntmps187;go_wp2_with fail
  refine(stringslite_Index_one s c w).mono ?_;rintro e w1⟨rfl,rfl⟩;go_wp2
  go_ret3
  exact⟨rfl,rfl⟩
 go_enter func133,ntmps133;go_wp2_with fail
 refine V5.mono ?_;rintro e w1⟨rfl,rfl⟩;go_wp2
 go_ret3
 exact⟨rfl,rfl⟩
open Go.RowKit Go.Sort
def tU(ls:List (aH)):List (aH):=ls.mergeSort fun x y=>decide (x<=y)
theorem SA(base:Nat)(v:Value)(ls:List (aH))(w:World)(h:w.ownsRow base 9 1 v ls.length (ls.map encStr))(hl:ls.length<1000000) :
  aC 183 #[v] w fun e w'=>e=.returned (.tuple #[])/\w'.ownsRow base 9 1 v ls.length ((tU ls).map encStr)/\w.grownBy w' v.ownBlock:=by
 rcases h.2 with ⟨rfl,h0⟩|⟨g,cap,cur,rfl,il,hb,h1,h2,h3,h4⟩
 ·obtain rfl:ls=[]:=dF.1 h0;refine(slices_Sort_string_none none 0 w).mono ?_;rintro e w'⟨rfl,rfl⟩;exact⟨rfl,by rw[show tU []=[]by simp[tU]];exact h,⟨rfl,rfl,rfl,ay _,fun _ _ _=>rfl⟩⟩
 ·refine(slices_Sort_string g 0 cap ls w (holds_of_block hb (by simpa using h4)) (bg hb) ab).mono ?_;rintro e w'⟨rfl,n,os,rfl⟩;exact⟨rfl,ownsRow_sorted aQ il hb h1 h2 h3,grownBy_sorted _⟩
theorem Jf(base:Nat)(v:Value)(ls:List (aH))(w:World)(h:w.ownsRow base 9 1 v ls.length (ls.map encStr))(hl:ls.length<1000000) :
  aC 184 #[v] w fun e w'=>∃u,e=.returned u/\w'.ownsRow base 9 1 u (Lib.compact ls).length ((Lib.compact ls).map encStr)/\w.grownBy w' v.ownBlock:=by
 rcases h.2 with ⟨rfl,h0⟩|⟨g,cap,cur,rfl,il,hb,h1,h2,h3,h4⟩
 ·obtain rfl:ls=[]:=dF.1 h0;refine(slices_Compact_string_empty none 0 w).mono ?_;rintro e w'⟨rfl,rfl⟩;exact⟨_,rfl,h,⟨rfl,rfl,rfl,ay _,fun _ _ _=>rfl⟩⟩
 ·refine(slices_Compact_string g 0 cap ls w (holds_of_block hb (by simpa using h4)) ab h1).mono ?_;have hle:=Lib.compact_length_le ls;obtain⟨ts,hts⟩:∃ts:List (aH),ts=Lib.compact ls++List.replicate (ls.length-(Lib.compact ls).length) []:=⟨_,rfl⟩;have hlen:ts.length=ls.length:=by rw[hts,aM,fb];omega
  rw[<-hts];rintro e w'⟨rfl,q,rfl⟩;have hw:=heap_sorted (n:=q) (os:= #[]) ts.toArray hb;have hg:=grownBy_sorted (w:=w) (g:=g) (n:=q) (os:= #[]) ts.toArray;rw[grow_empty]at hw hg;have tk:=take_putCells cur ts ab;refine⟨_,rfl,⟨aQ,.inr ⟨g,cap,_,rfl,il,hw,ab,h2,by simp[putCells,h3],?_⟩⟩,hg⟩
  have e1:(putCells encStr 0 ts.toArray cur).toList.take (Lib.compact ls).length=((putCells encStr 0 ts.toArray cur).toList.take ts.length).take (Lib.compact ls).length:=by
   rw[ke,dJ ab]
  rw[Nat.mul_one,e1,tk,hts,bD,List.take_left' aQ]
def Sep(w:World)(v v':Value):Prop:=v'.ownBlock=v.ownBlock\/∀k,v'.ownBlock=some k->w.heap.size<=k
theorem Ct{P:Program}(w:World)(base:Nat)(t ty e:TypeId)(i:TypeInfo)(z:Value)(size bytes:Nat)(ht:P.underlying t=some (.slice e))(hi:P.info? e=some i)(hz:i.zero=some z)
  (EU:i.size=size)(qD:i.bytes=bytes)(hzs:z.cells.size=size)(xx:0<size)
  (v:Value)(n:Nat)(xs:aX)(cO:w.ownsRow base e size v n xs)
  (a:Addr)(m c:Nat)(news:aX)(hl:news.length=m*size)(kr:∀j u,news[j]?=some u->w.cell? (a.add j)=some u)(h1:∀u∈news,u.oneCell'=true)
  (h63:n+m<=maxLen)(Cu:(n+m)*bytes<=140737488355328)(il:base<=w.heap.size) :
  ∃v' w',(Builtin.append_ #[t,t] ty #[v,.slice (some a) m c]).run P w=.ok v' w'/\w'.ownsRow base e size v' (n+m) (xs++news)/\w.grownBy w' v.ownBlock/\Sep w v v':=by
 obtain⟨v',w',hr,h2,h3,_⟩:=run_append_own (P:=P) w base t ty e i z size bytes ht hi hz EU qD hzs xx v n xs cO a m c news hl kr h1 h63 Cu il;refine⟨v',w',hr,h2,h3,?_⟩;rcases cO.2 with ⟨rfl,rfl⟩|⟨g,cap,cur,rfl,ZE,hg,hnc,hcm,hcs,re⟩
 ·have hx:xs=[]:=bZ (by simpa using cO.1);subst hx;obtain⟨v2,w2,oP,h22,_,_⟩:=run_append_own (P:=P) w w.heap.size t ty e i z size bytes ht hi hz EU qD hzs xx (.slice none 0 0) 0 [] (World.ownsRow_nil _ _ _ _) a m c news hl kr h1 h63 Cu (ay _);rw[hr]at oP;injection oP with e1 e2
  subst e1;exact Or.inr fun k hk=>(h22.lt k hk).1
 ·by_cases ZF:n+m<=cap
  ·subst EU;have nI:n*i.size+news.length<=cur.size:=by rw[hl,hcs, <-dC];exact bN _ ZF
   have oP:=run_append_room (P:=P) w t ty e i ht hi g n cap cur hg a m c news hl kr h1 ZF nI;rw[hr]at oP;injection oP with e1 e2
   subst e1;exact Or.inl rfl
  ·subst EU;subst qD;have Gs:n+m<=9223372036854775807:=by simp only[maxLen]at h63;omega
   have holds:∀j u,xs[j]?=some u->w.cell? ((⟨g,0,none⟩:Addr).add j)=some u:=cO.cells (g:=g) rfl;have oP:=run_append_grow (P:=P) w t ty e i z ht hi hz ⟨g,0,none⟩ n cap xs cO.1 holds a m c news hl kr ab ab (growslice_fits ab Cu);rw[hr]at oP;injection oP with e1 e2
   subst e1;exact Or.inr fun k hk=>by simp[Value.ownBlock]at hk;omega
theorem yE{P:Program}{w:World}{ops:Array Oper}{rest:List Oper}{o:Oper}{a:Act}{Q:Exit->Act->World->Prop}(ym:o.guard=none)(s x:Operand)(t:TypeId)
  (ho:o.op=.call {callee:=.builtin .append,args:= #[s,x],argTypes:= #[t,t]})
  (base:Nat)(e:TypeId)(i:TypeInfo)(z:Value)(size bytes:Nat)(ht:P.underlying t=some (.slice e))(hi:P.info? e=some i)(hz:i.zero=some z)
  (EU:i.size=size)(qD:i.bytes=bytes)(hzs:z.cells.size=size)(xx:0<size)
  (v:Value)(n:Nat)(xs:aX)(hs:a.eval s=v)(cO:w.ownsRow base e size v n xs)
  (ad:Addr)(m c:Nat)(news:aX)(hx:a.eval x=.slice (some ad) m c)(hl:news.length=m*size)(kr:∀j u,news[j]?=some u->w.cell? (ad.add j)=some u)(h1:∀u∈news,u.oneCell'=true)
  (h63:n+m<=maxLen)(Cu:(n+m)*bytes<=140737488355328)(il:base<=w.heap.size)
  (h:∀v' w',w'.ownsRow base e size v' (n+m) (xs++news)->w.grownBy w' v.ownBlock->Sep w v v'->wpList P ops Q rest (a.put o.dst v') w'):wpList P ops Q (o :: rest) a w :=
 wpList_plain ym fun _ hK=>by
  obtain⟨v',w',hr,h2,h3,h4⟩:=Ct (P:=P) w base t o.type e i z size bytes ht hi hz EU qD hzs xx v n xs cO ad m c news hl kr h1 h63 Cu il;unfold Oper.wp execOp;simp only[ho,resolve,invoke,builtin,Sem.run_bind,Sem.run_pure,Result.andThen_ok,eA,cz,cY,hs,hx,hr];exact hK _ _ (h v' w' h2 h3 h4)
theorem AV{ops:Array Oper}{rest:List Oper}{o:Oper}{a:Act}{Q:Exit->Act->World->Prop}{w:World}(ym:o.guard=none)(s x:Operand)
  (ho:o.op=.call {callee:=.builtin .append,args:= #[s,x],argTypes:= #[125,125]})(base:Nat)(v:Value)(l:List ai)(hs:a.eval s=v)(cO:Strs base w v l)
  (ad:Addr)(c:Nat)(y:ai)(hx:a.eval x=.slice (some ad) 1 c)(hy:w.cell? ad=some (.string y))(hlen:l.length<4398046511104)(il:base<=w.heap.size)
  (h:∀v' w',Strs base w' v' (l++[y])->w.grownBy w' v.ownBlock->Sep w v v'->wpList prog ops Q rest (a.put o.dst v') w'):wpList prog ops Q (o :: rest) a w:=by
 obtain⟨i0,hi,oZ,kI,kS⟩:=info_parts yo;refine yE ym s x 125 ho base 9 i0 (.string ⟨#[]⟩) 1 16 underlying125 hi oZ kI kS rfl ag v l.length (l.map Value.string) hs cO ad 1 c [.string y] hx rfl ?_ ?_ ?_ ?_ il ?_
 ·intro j u hj
  match j,hj with
  |0,hj=>simp at hj;subst hj;simpa[Addr.add]using hy
 ·intro u hu;simp at hu;subst hu;rfl
 ·unfold maxLen;omega
 ·omega
 ·intro v' w' h1 h2 h3;exact h v' w' (by unfold Strs;simpa using h1) h2 h3
theorem Jg{ops:Array Oper}{rest:List Oper}{o:Oper}{a:Act}{Q:Exit->Act->World->Prop}{w:World}(ym:o.guard=none)(s x:Operand)
  (ho:o.op=.call {callee:=.builtin .append,args:= #[s,x],argTypes:= #[125,125]})(base:Nat)(v:Value)(l:List ai)(hs:a.eval s=v)(cO:Strs base w v l)
  (vx:Value)(m:List ai)(hx:a.eval x=vx)(hm:ib w vx m)(hlen:l.length+m.length<4398046511104)(il:base<=w.heap.size)
  (h:∀v' w',Strs base w' v' (l++m)->w.grownBy w' v.ownBlock->wpList prog ops Q rest (a.put o.dst v') w'):wpList prog ops Q (o :: rest) a w:=by
 obtain⟨i0,hi,oZ,kI,kS⟩:=info_parts yo;obtain⟨ax,cx,fT⟩:=hm.form;cases ax with
 |none =>
  obtain⟨W_,h2⟩:m=[]/\cx=0:=by
   rcases hm with ⟨a',c',hv,hs,hc⟩|⟨bk,o',c,hf,_⟩
   ·rw[fT]at hv;injection hv with e1 e2 e3
    exact⟨hs,e3.trans (hc e1.symm)⟩
   ·rw[fT]at hf;injection hf with e1;cases e1
  subst W_;have SB:a.eval x=.slice none 0 0:=by rw[hx,fT,h2];rfl
  refine wpList_append_own_none ym s x 125 ho base 9 i0 1 underlying125 hi v l.length (l.map Value.string) hs cO SB ?_;exact h v w (by rw[dI];exact cO) ⟨rfl,rfl,rfl,ay _,fun _ _ _=>rfl⟩
 |some ad =>
  refine wpList_append_own w ym s x 125 ho base 9 i0 (.string ⟨#[]⟩) 1 16 underlying125 hi oZ kI kS rfl ag v l.length (l.map Value.string) hs cO ad m.length cx (m.map Value.string) (hx.trans fT) aQ ?_ ?_ ?_ ?_ il ?_
  ·intro j u hj;rcases hm with ⟨_,_,_,e,_⟩|⟨bk,o',c,hf,g1,g2,g3,g4⟩
   ·subst e;simp at hj
   ·rw[hf]at fT;cases fT;obtain⟨y,hy,rfl⟩:∃y,m[j]?=some y/\Value.string y=u:=by
     rw[List.getElem?_map]at hj;cases hmj:m[j]? with
     |none=>rw[hmj]at hj;cases hj
     |some y=>rw[hmj]at hj;exact⟨y,rfl,by simpa using hj⟩
    have ea:(Addr.add ⟨bk,o',none⟩ j)=⟨bk,o'+j,none⟩:=by unfold Addr.add;split<;>simp_all
    rw[ea];exact g4 j y hy
  ·intro u hu;obtain⟨y,_,rfl⟩:=cj.1 hu;rfl
  ·unfold maxLen;omega
  ·omega
  ·intro v' w' h1 h2 _;exact h v' w' (by unfold Strs;simpa using h1) h2
def Still(base:Nat)(w:World)(k:Nat):Prop:=k<base\/∃c f,w.heap[k]?=some (.cells c 9 f)
def rL(base:Nat)(w:World)(S:dz):Prop:=∀k,S k->k<w.heap.size->base<=k/\∀c f,w.heap[k]?≠some (.cells c 9 f)
theorem rL.none(base:Nat)(w:World):rL base w aW:=fun _ h=>absurd h id
theorem Still.fr(h:Still base w k)(hf:Fr S w w')(ho:rL base w S):Still base w' k:=by
 rcases h with h|⟨c,f,h⟩
 ·exact Or.inl h
 ·exact Or.inr ⟨c,f,hf.keep h (fun hs=>(ho k hs (bg h)).2 c f h)⟩
structure cZ (base:Nat) (w:World) (v:Value) (ss:List ai):Prop where
 rd:ib w v ss
 own:∀k,v.ownBlock=some k->ss≠ []->k<w.heap.size/\Still base w k
 rf:ss.length<4398046511104
theorem ib.empty(h:ib w v []):ib w' v []:=by
 rcases h with h|⟨bk,o,c,hv,_⟩
 ·exact Or.inl h
 ·exact Or.inl ⟨_,_,hv,rfl,fun e=>by cases e⟩
theorem cZ.fr(h:cZ base w v ss)(hf:Fr S w w')(ho:rL base w S):cZ base w' v ss:=by
 refine⟨?_,fun k hk hs=>⟨cK (h.own k hk hs).1 hf.size,(h.own k hk hs).2.fr hf ho⟩,h.rf⟩;by_cases he:ss=[]
 ·subst he;exact h.rd.empty
 refine h.rd.fr hf (fun k hk hs=>?_);obtain⟨hl,iM⟩:=h.own k hk he;have rM:=ho k hs hl;rcases iM with g|⟨c,f,g⟩
 ·omega
 ·exact rM.2 c f g
theorem cZ.dt(h:cZ base w v ss)(hf:Fr aW w w'):cZ base w' v ss:=h.fr hf (rL.none _ _)
theorem cZ.nil(base:Nat)(w:World):cZ base w (.slice none 0 0) []:=⟨ib.nil w,fun k hk=>by simp[Value.ownBlock]at hk,aQ⟩
theorem Strs.in{base b:Nat}(h:Strs b w v ss)(hl:ss.length<4398046511104):cZ base w v ss:=by
 refine⟨h.at,fun k hk _=>?_,hl⟩;rcases h.2 with ⟨hv,_⟩|⟨g,cap,cur,hv,hg,hh,_⟩
 ·rw[hv]at hk;simp[Value.ownBlock]at hk
 ·rw[hv]at hk;simp[Value.ownBlock]at hk;subst hk;exact⟨bg hh,Or.inr ⟨_,_,hh⟩⟩
inductive lf {α β:Type} (R:α->β->Prop):List α->List β->Prop
 |nil:lf R [] []
 |cons {a b l m}:R a b->lf R l m->lf R (a :: l) (b :: m)
namespace lf
variable {α β : Type} {R T : α → β → Prop} {l l' : List α} {m m' : List β}
theorem len(h:lf R l m):l.length=m.length:=by induction h with
 |nil=>rfl
 |cons _ _ ih=>simp[ih]
theorem mono(h:lf R l m)(hs:∀a b,R a b->T a b):lf T l m:=by induction h with
 |nil=>exact .nil
 |cons h _ ih=>exact .cons (hs _ _ h) ih
theorem get(h:lf R l m){i:Nat}{a:α}(hi:l[i]?=some a):∃b,m[i]?=some b/\R a b:=by
 induction h generalizing i with
 |nil=>simp at hi
 |cons h _ ih =>
  cases i with
  |zero=>simp at hi;subst hi;exact⟨_,rfl,h⟩
  |succ i=>simpa using ih (by simpa using hi)
theorem app(h:lf R l m)(h':lf R l' m'):lf R (l++l') (m++m'):=by induction h with
 |nil=>exact h'
 |cons h _ ih=>exact .cons h ih
theorem take(h:lf R l m)(n:Nat):lf R (l.take n) (m.take n):=by
 induction h generalizing n with
 |nil=>simp;exact .nil
 |cons h _ ih=>cases n with
  |zero=>exact .nil
  |succ n=>exact .cons h (ih n)
theorem drop(h:lf R l m)(n:Nat):lf R (l.drop n) (m.drop n):=by
 induction h generalizing n with
 |nil=>simp;exact .nil
 |cons h t ih=>cases n with
  |zero=>exact .cons h t
  |succ n=>exact ih n
theorem filter(h:lf R l m){p:α->Bool}{q:β->Bool}(ZL:∀a b,R a b->p a=q b):lf R (l.filter p) (m.filter q):=by
 induction h with
 |nil=>exact .nil
 |cons h _ ih =>
  rw[List.filter_cons,List.filter_cons,ZL _ _ h];split
  ·exact .cons h ih
  ·exact ih
end lf
theorem Fr.setRow{a w:World}(h:Fr S a w)(hg:g<a.heap.size->S g)(cs:bS):Fr S a (w.setRow g cs) :=
 ⟨h.os,h.tape,h.output,by simpa[World.setRow]using h.size,fun k hk hn=>by
  rw[<-h.block k hk hn];simp only[World.setRow,Array.getElem?_modify];by_cases e:g=k
  ·subst e;exact absurd (hg hk) hn
  ·simp[e]⟩
def own(v:Value):dz:=fun k=>v.ownBlock=some k
theorem OwnRows.off{base b k:Nat}{e:TypeId}{xs:cU}(h:OwnRows b e k w v xs)(hb:base<=b)(he:e≠9):rL base w (own v):=by
 intro g hg _;obtain⟨cap,cur,_,h1,h2,_⟩:=h.open hg;exact⟨aE hb h1,fun c f e2=>by rw[h2]at e2;cases e2;exact he rfl⟩
theorem Fr.Oe(o:Obj)(h:(w.alloc o).grownBy w' v.ownBlock):Fr (own v) w w' :=
 ((ae (own v) w).alloc o).grown h (fun _ hk _=>hk)
abbrev mH := @rL.none
open Go.RowKit
def kt:Nat->Nat->aH
 |0,_=>[]
 |k+1,n=>kt k (n/16)++[CH (n%16).toUInt8]
theorem nJ:∀k n,(kt k n).length=k
 |0,_=>rfl
 |k+1,n=>by rw[kt,aM,nJ k];rfl
theorem A1:∀j n,CH (n/16^j%16).toUInt8 :: kt j n=kt (j+1) n
 |0,n=>by simp[kt]
 |j+1,n=>by
  have h:=A1 j (n/16);rw[Nat.div_div_eq_div_mul,show 16*16^j=16^(j+1)from by rw[Nat.pow_succ];omega]at h;show _ :: (kt j (n/16)++[_])=kt (j+1) (n/16)++[_];rw[<-h];rfl
theorem A_:∀d,kt d 0=List.replicate d 48
 |0=>rfl
 |d+1=>by
  rw[kt,show(0:Nat)/16=0 from rfl,A_ d,List.replicate_succ'];rfl
theorem CJ:∀k d n,n<16^k->List.replicate d 48++kt k n=kt (k+d) n
 |0,d,n,h=>by
  obtain rfl:n=0:=by simpa using h
  rw[bj,A_ d];exact dI _
 |k+1,d,n,h=>by
  have h2:n/16<16^k:=by rw[Nat.pow_succ]at h;omega
  rw[show k+1+d=(k+d)+1 from ab,kt,kt, <-CJ k d (n/16) h2,cH]
def jl(n:Nat):aH:=kt 8 n
def CQ(dK:Bool)(x:Int)(i:Nat):UInt8:=if dK then(x/2^(8*i)%256).toNat.toUInt8 else(x/2^(24-8*i)%256).toNat.toUInt8
def pT(dK:Bool)(x:Int):aH:=(List.range 4).map (CQ dK x)
def kF(dK:Bool)(ws:List Int):aH:=ws.flatMap (pT dK)
def oA(dK:Bool)(ws:List Int):aH:=xL (kF dK ws)
theorem tA(dK:Bool)(x:Int):(pT dK x).length=4:=by simp[pT]
theorem CR(dK:Bool)(x:Int)(j:Nat)(hj:j<4):(pT dK x).take (j+1)=(pT dK x).take j++[CQ dK x j]:=by
 have hg:(pT dK x)[j]?=some (CQ dK x j):=by simp[pT,hj]
 rw[ct,hg];rfl
theorem nW(dK:Bool)(ws:List Int):(kF dK ws).length=4*ws.length:=by
 unfold kF
 induction ws with
 |nil=>rfl
 |cons a l ih=>rw[List.flatMap_cons,aM,tA,ih,List.length_cons];omega
theorem yP(dK:Bool){ws:List Int}{x:Int}(h:ws[k]?=some x):kF dK (ws.take (k+1))=kF dK (ws.take k)++pT dK x:=by
 rw[ct,h];simp[kF]
theorem JA(x:Int)(e:Nat):(((x/2^e%256).toNat.toUInt8.toNat:Nat):Int)=x/2^e%256:=by
 have h1:=Int.emod_nonneg (x/2^e) (show(256:Int)≠0 from ag);have h2:=Int.emod_lt_of_pos (x/2^e) (show(0:Int)<256 from ag);generalize x/2^e%256=y at *
 rw[show y.toNat.toUInt8.toNat=y.toNat from by simp[Nat.toUInt8];omega];omega
def ZY(dK:Bool)(ws:List Int)(w:World)(v i:Value)(wr:World):Prop:=∃k:Nat,k<=ws.length/\i=.int .i64 k/\Bytes w.heap.size wr v (kF dK (ws.take k))/\Fr aW w wr
def afs(dK:Bool)(pre:aH)(x:Int)(w:World)(v i:Value)(wr:World):Prop:=∃j:Nat,j<=4/\i=.int .i64 j/\Bytes w.heap.size wr v (pre++(pT dK x).take j)/\Fr aW w wr
theorem A'(g:Nat)(ws:List Int)(dK:Bool)(w:World)(hl:ws.length<=8)(hg:g<w.heap.size)(hc:∀(j:Nat) x,ws[j]?=some x->w.cell? ⟨g,j,none⟩=some (.int .u32 x))(hx:∀x∈ws,0<=x/\x<4294967296) :
  aC 240 #[.slice (some ⟨g,0,none⟩) ws.length ws.length,.bool dK] w fun e w'=>e=.returned (.string ⟨(oA dK ws).toArray⟩)/\Fr aW w w':=by
 have HC:=O hc;have HX:=O hx;clear hc hx;cases dK
 all_goals
  go_enter func240,ntmps240;go_wp2
 ·go_loopw[5,11] (ZY false ws w) (fun _ i _=>ws.length-(intOf i).toNat)
  case atStart=>exact⟨0,aS _,rfl,Bytes.nil _ _,ae _ _⟩
  case round =>
   obtain⟨k,hk,rfl,cO,cN⟩:=hrel;by_cases fx:k<ws.length
   ·have dL:=O (List.getElem?_eq_getElem fx);obtain⟨x0,x1⟩:=HX.o _ (bL fx);have hcell:wr.cell? ⟨g,k,none⟩=some (.int .u32 ws[k]):=(cN.cell (p:=⟨g,k,none⟩) hg id).trans (HC.o k _ dL.o);generalize ws[k]=x at *
    have Ia:=O (yP false dL.o);have D7:=O (show(kF false (ws.take k)).length<=32 by rw[nW,aL];omega);generalize kF false (ws.take k)=pre at *
    obtain⟨av,cv,hv⟩:=cO.form;subst hv;go_wp2;clear hcell;go_loopw[5,15] (afs false pre x w) (fun _ i _=>4-(intOf i).toNat)
    case atStart=>exact⟨0,ab,rfl,by simpa using cO,cN⟩
    case round =>
     obtain⟨j,hj,rfl,fu,ki⟩:=hrel;have il:w.heap.size<=wr.heap.size:=ki.size;obtain⟨av,cv,hv⟩:=fu.form;subst hv;by_cases hj4:j<4
     ·have Ib:(j:Int)<4:=ab;have jJ:=O (CR false x j hj4);have qD:x/2^(24-8*j)%256=((CQ false x j).toNat:Int):=(JA x (24-8*j)).symm;generalize CQ false x j=c at *
      have Fe:=O (show(pre++(pT false x).take j).length<100 by rw[aM,aL,tA];have:=D7.o;omega);go_wp2_with (at_builtin;refine jT rfl _ _ rfl w.heap.size (.slice av _ cv) (pre++(pT false x).take j) rfl (by apply gl;exact fu) ⟨wr.heap.size,0,none⟩ 1 c rfl (je _ _ _ _) (by have:=Fe.o;omega) bF ?_;intro v' w2 fk yr)
      go_roundw
      case rel=>exact⟨j+1,ab,bf,by rw[jJ.o, <-cH];exact fk,(ki.alloc _).fH yr fu.block⟩
      case measure=>simp[intOf];omega
     ·have hj5:j=4:=ab;subst hj5;have fk:Bytes w.heap.size wr (.slice av (pre++(pT false x).take 4).length cv) (pre++pT false x):=by
       have h:=fu;rw[aD (by rw[tA];omega)]at h ⊢; exact h
      have HO:=O fk;clear fk fu;go_wp2;go_roundw
      case rel=>exact⟨k+1,ab,bf,by rw[Ia.o];exact HO.o,ki⟩
      case measure=>simp[intOf];omega
   ·rw[aD ab]at cO;have D8:(kF false ws).length<=32:=by rw[nW];omega
    have iM:=O (show oA false ws=xL (kF false ws)from rfl);generalize kF false ws=bs at *
    obtain⟨av,cv,hv⟩:=cO.form;subst hv;have AJ:=cO.text;go_wp2_with fail
    refine(On ⟨bs.toArray⟩ wr (by show bs.toArray.size<_;simp;omega)).mono ?_;rintro e w3⟨rfl,ik⟩;go_wp2;go_ret;rw[iM.o];exact⟨rfl,cN.trans ik⟩
 ·go_loopw[5,11] (ZY true ws w) (fun _ i _=>ws.length-(intOf i).toNat)
  case atStart=>exact⟨0,aS _,rfl,Bytes.nil _ _,ae _ _⟩
  case round =>
   obtain⟨k,hk,rfl,cO,cN⟩:=hrel;by_cases fx:k<ws.length
   ·have dL:=O (List.getElem?_eq_getElem fx);obtain⟨x0,x1⟩:=HX.o _ (bL fx);have hcell:wr.cell? ⟨g,k,none⟩=some (.int .u32 ws[k]):=(cN.cell (p:=⟨g,k,none⟩) hg id).trans (HC.o k _ dL.o);generalize ws[k]=x at *
    have Ia:=O (yP true dL.o);have D7:=O (show(kF true (ws.take k)).length<=32 by rw[nW,aL];omega);generalize kF true (ws.take k)=pre at *
    obtain⟨av,cv,hv⟩:=cO.form;subst hv;go_wp2;clear hcell;go_loopw[5,15] (afs true pre x w) (fun _ i _=>4-(intOf i).toNat)
    case atStart=>exact⟨0,ab,rfl,by simpa using cO,cN⟩
    case round =>
     obtain⟨j,hj,rfl,fu,ki⟩:=hrel;have il:w.heap.size<=wr.heap.size:=ki.size;obtain⟨av,cv,hv⟩:=fu.form;subst hv;by_cases hj4:j<4
     ·have Ib:(j:Int)<4:=ab;have jJ:=O (CR true x j hj4);have qD:x/2^(8*j)%256=((CQ true x j).toNat:Int):=(JA x (8*j)).symm;generalize CQ true x j=c at *
      have Fe:=O (show(pre++(pT true x).take j).length<100 by rw[aM,aL,tA];have:=D7.o;omega);go_wp2_with (at_builtin;refine jT rfl _ _ rfl w.heap.size (.slice av _ cv) (pre++(pT true x).take j) rfl (by apply gl;exact fu) ⟨wr.heap.size,0,none⟩ 1 c rfl (je _ _ _ _) (by have:=Fe.o;omega) bF ?_;intro v' w2 fk yr)
      go_roundw
      case rel=>exact⟨j+1,ab,bf,by rw[jJ.o, <-cH];exact fk,(ki.alloc _).fH yr fu.block⟩
      case measure=>simp[intOf];omega
     ·have hj5:j=4:=ab;subst hj5;have fk:Bytes w.heap.size wr (.slice av (pre++(pT true x).take 4).length cv) (pre++pT true x):=by
       have h:=fu;rw[aD (by rw[tA];omega)]at h ⊢; exact h
      have HO:=O fk;clear fk fu;go_wp2;go_roundw
      case rel=>exact⟨k+1,ab,bf,by rw[Ia.o];exact HO.o,ki⟩
      case measure=>simp[intOf];omega
   ·rw[aD ab]at cO;have D8:(kF true ws).length<=32:=by rw[nW];omega
    have iM:=O (show oA true ws=xL (kF true ws)from rfl);generalize kF true ws=bs at *
    obtain⟨av,cv,hv⟩:=cO.form;subst hv;have AJ:=cO.text;go_wp2_with fail
    refine(On ⟨bs.toArray⟩ wr (by show bs.toArray.size<_;simp;omega)).mono ?_;rintro e w3⟨rfl,ik⟩;go_wp2;go_ret;rw[iM.o];exact⟨rfl,cN.trans ik⟩
def abN(n:Nat):UInt8:=if n<26 then(n+65).toUInt8 else if n<52 then(n+71).toUInt8 else if n<62 then(n-4).toUInt8 else if n=62 then 43 else 47
def Bv(a b c:UInt8):Nat:=a.toNat*65536+b.toNat*256+c.toNat
def rO(v i:Nat):UInt8:=abN (v/2^(18-6*i)%64)
def uU:aH->aH
 |[]=>[]
 |[a]=>[rO (Bv a 0 0) 0,rO (Bv a 0 0) 1,61,61]
 |[a,b]=>[rO (Bv a b 0) 0,rO (Bv a b 0) 1,rO (Bv a b 0) 2,61]
 |a :: b :: c :: r=>rO (Bv a b c) 0 :: rO (Bv a b c) 1 :: rO (Bv a b c) 2 :: rO (Bv a b c) 3 :: uU r
def rp(l:aH):Nat->Nat
 |0=>0
 |k+1=>rp l k*256+(l.getD k 0).toNat
theorem CY(l:aH):∀k,rp l k<256^k
 |0=>by simp[rp]
 |k+1=>by
  have h:=CY l k;have h2:=(l.getD k 0).toNat_lt;rw[rp,Nat.pow_succ];omega
theorem abO(v x:Nat)(hv:v<4294967296)(hx:x<256):bits .or .i64 ((v:Int)*256) (x:Int)=((v*256+x:Nat):Int):=by
 have hm:((v:Int)*256)=((v*256:Nat):Int):=ab;rw[hm];have h1:(BitVec.ofInt 64 ((v*256:Nat):Int)).toNat=v*256:=by
  rw[BitVec.ofInt_natCast,BitVec.toNat_ofNat];exact Nat.mod_eq_of_lt ab
 have h2:(BitVec.ofInt 64 (x:Int)).toNat=x:=by
  rw[BitVec.ofInt_natCast,BitVec.toNat_ofNat];exact Nat.mod_eq_of_lt ab
 show IntKind.i64.wrap ((BitVec.ofInt 64 ((v*256:Nat):Int) ||| BitVec.ofInt 64 (x:Int)).toNat:Int)=_;have h3:v*256 ||| x=v*256+x:=by
  have h:=Nat.shiftLeft_add_eq_or_of_lt (show x<2^8 from hx) v;rw[Nat.shiftLeft_eq]at h;exact h.symm
 rw[BitVec.toNat_or,h1,h2,h3,IntWalk.i64_left];exact IntWalk.wrap64_in _ ab
theorem Tl(r:ai)(k:Nat)(h:k<r.size):rp r.data.toList (k+1)=rp r.data.toList k*256+r[k].toNat:=by
 rw[rp,List.getD_eq_getElem?_getD,byte_at r k h];rfl
theorem PU(r:ai)(k:Nat)(h:¬k<r.size):rp r.data.toList (k+1)=rp r.data.toList k*256:=by
 rw[rp,List.getD_eq_getElem?_getD,sY r k h];simp only[Option.getD_none];exact Nat.add_zero _
theorem PV(r:ai):rp r.data.toList 3=Bv (r.data.toList.getD 0 0) (r.data.toList.getD 1 0) (r.data.toList.getD 2 0):=by
 show((0*256+_)*256+_)*256+_=_*65536+_*256+_;rw[gY,bj,dC,Nat.mul_assoc]
def nk(v n:Nat):aH:=[rO v 0,rO v 1,if 2<=n then rO v 2 else 61,if 3<=n then rO v 3 else 61]
def afM(w:World)(acc:aH)(v n:Nat)(i:Value)(wr:World):Prop :=
 ∃k:Nat,k<=4/\i=.int .i64 k/\EZ w.heap.size w.heap.size (acc++(nk v n).take k) wr/\Fr aW w wr/\w.heap.size<=wr.heap.size
theorem yV:∀n (h:n<64),(⟨#[65,66,67,68,69,70,71,72,73,74,75,76,77,78,79,80,81,82,83,84,85,86,87,88,89,90,97,98,99,100,101,102,103,104,105,106,107,108,109,110,111,112,113,114,115,116,117,118,119,120,121,122,48,49,50,51,52,53,54,55,56,57,43,47]⟩:ai)[n]'h=abN n:=dp
theorem OD(v i:Nat)(hv:v<16777216):∃m:Nat,m<64/\abN m=rO v i/\bits .and .i64 ((v/2^(18-6*i):Nat):Int) 63=(m:Int):=by
 refine⟨v/2^(18-6*i)%64,Nat.mod_lt _ ag,rfl,?_⟩;have hx:v/2^(18-6*i)<16777216:=ix (Nat.div_le_self _ _) hv;generalize v/2^(18-6*i)=x at hx;have h1:(BitVec.ofInt 64 (x:Int)).toNat=x:=by
  rw[BitVec.ofInt_natCast,BitVec.toNat_ofNat];exact Nat.mod_eq_of_lt ab
 have h2:(BitVec.ofInt 64 63).toNat=63:=ag;show IntKind.i64.wrap ((BitVec.ofInt 64 (x:Int) &&& BitVec.ofInt 64 63).toNat:Int)=_;rw[BitVec.toNat_and,h1,h2,Nat.and_two_pow_sub_one_eq_mod x 6,IntWalk.i64_left];exact IntWalk.wrap64_in _ ab
theorem JL(r:ai)(n:Nat):(r.extract n r.size).data.toList=r.data.toList.drop n:=by
 rw[ByteArray.data_extract,Array.toList_extract];show(r.data.toList.drop n).take (r.data.toList.length-n)=_;rw[aD aQ]
theorem PW:∀(l:aH) (n:Nat),0<n->n<=3->n<=l.length->(n<3->n=l.length) ->
  uU l=nk (Bv (l.getD 0 0) (l.getD 1 0) (l.getD 2 0)) n++uU (l.drop n)
 |[],n,h0,_,hl,_=>by simp at hl;omega
 |[a],n,h0,_,hl,_=>by
  obtain rfl:n=1:=by simp at hl;omega
  rfl
 |[a,b],n,h0,_,hl,h=>by
  obtain rfl:n=2:=by simp at hl h;omega
  rfl
 |a :: b :: c :: t,n,h0,h3,hl,h=>by
  obtain rfl:n=3:=by simp at hl h;omega
  rfl
theorem PX(r:ai)(v n:Nat)(Og:0<n)(hn3:n<=3)(hnr:n<=r.size)(hnk:n<3->n=r.size)(hv:v=Bv (r.data.toList.getD 0 0) (r.data.toList.getD 1 0) (r.data.toList.getD 2 0)) :
  uU r.data.toList=nk v n++uU (r.extract n r.size).data.toList:=by
 rw[JL,hv];exact PW _ n Og hn3 hnr hnk
theorem CZ(r:ai)(n:Nat):(r.extract n r.size).size=r.size-n:=by
 have h:(r.extract n r.size).data.toList.length=(r.data.toList.drop n).length:=by rw[JL]
 rw[bH]at h;exact h
def afN(r:ai)(w0:World)(v i:Value)(wr:World):Prop :=
 ∃k:Nat,k<=3/\i=.int .i64 k/\v=.int .i64 (rp r.data.toList k)/\wr=w0
def abP(w:World)(s:ai)(v:Value)(wr:World):Prop :=
 ∃(r:ai) (acc:aH),r.size<=s.size/\v=.string r/\acc.length<=4*(s.size-r.size)/\uU s.data.toList=acc++uU r.data.toList/\EZ w.heap.size w.heap.size acc wr/\Fr aW w wr/\w.heap.size<=wr.heap.size
def lenOf:Value->Nat
 | .string r=>r.size
 |_=>0
theorem Mg(s:ai)(w:World)(hs:s.size<4398046511104) :
  aC 104 #[.string s] w fun e w'=>e=.returned (.string ⟨(uU s.data.toList).toArray⟩)/\Fr aW w w':=by
 go_enter func104,ntmps104;go_wp2;go_loopw[0] (abP w s) (fun v _=>lenOf v)
 case atStart=>exact⟨s,[],ay _,rfl,aQ,aQ,EZ.new w,(ae _ _).alloc _,aQ⟩
 case round =>
  obtain⟨r,acc,hr,rfl,Br,hun,hb,hf,hz⟩:=hrel;have HUN:=O hun;clear hun;by_cases hr0:0<r.size
  ·have Bw:(0:Int)<(r.size:Int):=ab;obtain⟨n,Og,hn3,hnr,hni,hnk⟩:∃n:Nat,0<n/\n<=3/\n<=r.size/\min (3:Int) (r.size:Int)=(n:Int)/\(n<3->n=r.size):=⟨min 3 r.size,ab,ab,ab,ab,ab⟩;go_wp2_with fail
   go_loopw[5,14] (afN r wr) (fun _ i _=>3-(intOf i).toNat)
   case atStart=>exact⟨0,ab,rfl,rfl,rfl⟩
   case round =>
    obtain⟨k,hk,rfl,rfl,rfl⟩:=hrel;by_cases GG:k<3
    ·have qp:(k:Int)<3:=ab;have Tm:=CY r.data.toList k;have alu:rp r.data.toList k<65536:=cK Tm (aE (Nat.pow_le_pow_right ab (show k<=2 from ab)) ag);have arO:¬(9223372036854775807:Int)<(rp r.data.toList k:Int)*256:=ab;by_cases PY:k<n
     ·have alv:(k:Int)<(n:Int):=ab;have alw:k<r.size:=ab;have hkr:(k:Int)<(r.size:Int):=ab;have iM:=O (Tl r k alw);have ob:=r[k].toNat_lt;go_wp2_with fail
      refine⟨⟨k+1,ab,bf,?_,rfl⟩,by simp[intOf];omega⟩;rw[abO _ _ (Nat.lt_trans alu ag) ob,iM.o]
     ·have alv:¬(k:Int)<(n:Int):=ab;have iM:=O (PU r k ab);go_wp2_with fail
      refine⟨⟨k+1,ab,bf,?_,rfl⟩,by simp[intOf];omega⟩;rw[iM.o];rfl
    ·have qp:¬(k:Int)<3:=ab;have XO:k=3:=ab;subst XO;have Tm:=CY r.data.toList 3;have Z5:=O (PV r);generalize rp r.data.toList 3=v at Tm Z5;go_wp2_with fail
     go_loopw[29] (afM w acc v n) (fun i _=>4-(intOf i).toNat)
     case atStart=>exact⟨0,ab,rfl,by simpa using hb,hf,hz⟩
     case round =>
      obtain⟨k,hk,rfl,sJ,dn,kI⟩:=hrel;have o8:∀j,(acc++(nk v n).take j).length<=4*s.size+4:=by intro j;rw[aM,aL];show _+min j 4<=_;omega
      match k,hk,sJ with
      |0,_,sJ =>
       obtain⟨m,hm,hl,C0⟩:=OD v 0 Tm;rw[show(((v/2^(18-6*0):Nat):Int))=(v:Int)/262144 from ab]at C0;have PY:(0:Int)<=(n:Int):=ab;have hq:(0:Int)<=(m:Int)/\(m:Int)<64:=ab;go_wp2_with fail
       rw[yV m hm,hl];refine(jX _ _ _ (rO v 0) wr sJ (by have:=o8 0;omega) kI).mono ?_;rintro e w2⟨rfl,kh,dD⟩;have kS:w.heap.size<=w2.heap.size:=aE kI dD.size;have qg:EZ w.heap.size w.heap.size (acc++(nk v n).take (0+1)) w2:=by
        have e:(nk v n).take (0+1)=(nk v n).take 0++[(rO v 0)]:=by simp[nk, *]
        rw[e, <-cH];exact kh
       clear sJ kh;go_wp2;go_roundw
       case rel=>exact⟨0+1,ab,bf,qg,dn.lJ dD,kS⟩
       case measure=>simp[intOf]
      |1,_,sJ =>
       obtain⟨m,hm,hl,C0⟩:=OD v 1 Tm;rw[show(((v/2^(18-6*1):Nat):Int))=(v:Int)/4096 from ab]at C0;have PY:(1:Int)<=(n:Int):=ab;have hq:(0:Int)<=(m:Int)/\(m:Int)<64:=ab;go_wp2_with fail
       rw[yV m hm,hl];refine(jX _ _ _ (rO v 1) wr sJ (by have:=o8 1;omega) kI).mono ?_;rintro e w2⟨rfl,kh,dD⟩;have kS:w.heap.size<=w2.heap.size:=aE kI dD.size;have qg:EZ w.heap.size w.heap.size (acc++(nk v n).take (1+1)) w2:=by
        have e:(nk v n).take (1+1)=(nk v n).take 1++[(rO v 1)]:=by simp[nk, *]
        rw[e, <-cH];exact kh
       clear sJ kh;go_wp2;go_roundw
       case rel=>exact⟨1+1,ab,bf,qg,dn.lJ dD,kS⟩
       case measure=>simp[intOf]
      |2,_,sJ =>
       obtain⟨m,hm,hl,C0⟩:=OD v 2 Tm;rw[show(((v/2^(18-6*2):Nat):Int))=(v:Int)/64 from ab]at C0;by_cases alx:2<=n
       ·have PY:(2:Int)<=(n:Int):=ab;have hq:(0:Int)<=(m:Int)/\(m:Int)<64:=ab;go_wp2_with fail
        rw[yV m hm,hl];refine(jX _ _ _ (rO v 2) wr sJ (by have:=o8 2;omega) kI).mono ?_;rintro e w2⟨rfl,kh,dD⟩;have kS:w.heap.size<=w2.heap.size:=aE kI dD.size;have qg:EZ w.heap.size w.heap.size (acc++(nk v n).take (2+1)) w2:=by
         have e:(nk v n).take (2+1)=(nk v n).take 2++[(rO v 2)]:=by simp[nk, *]
         rw[e, <-cH];exact kh
        clear sJ kh;go_wp2;go_roundw
        case rel=>exact⟨2+1,ab,bf,qg,dn.lJ dD,kS⟩
        case measure=>simp[intOf]
       ·have PY:¬(2:Int)<=(n:Int):=ab;go_wp2_with fail
        refine(jX _ _ _ 61 wr sJ (by have:=o8 2;omega) kI).mono ?_;rintro e w2⟨rfl,kh,dD⟩;have kS:w.heap.size<=w2.heap.size:=aE kI dD.size;have qg:EZ w.heap.size w.heap.size (acc++(nk v n).take (2+1)) w2:=by
         have e:(nk v n).take (2+1)=(nk v n).take 2++[61]:=by simp[nk, *]
         rw[e, <-cH];exact kh
        clear sJ kh;go_wp2;go_roundw
        case rel=>exact⟨2+1,ab,bf,qg,dn.lJ dD,kS⟩
        case measure=>simp[intOf]
      |3,_,sJ =>
       obtain⟨m,hm,hl,C0⟩:=OD v 3 Tm;rw[show(((v/2^(18-6*3):Nat):Int))=(v:Int)from ab]at C0;by_cases alx:3<=n
       ·have PY:(3:Int)<=(n:Int):=ab;have hq:(0:Int)<=(m:Int)/\(m:Int)<64:=ab;go_wp2_with fail
        rw[yV m hm,hl];refine(jX _ _ _ (rO v 3) wr sJ (by have:=o8 3;omega) kI).mono ?_;rintro e w2⟨rfl,kh,dD⟩;have kS:w.heap.size<=w2.heap.size:=aE kI dD.size;have qg:EZ w.heap.size w.heap.size (acc++(nk v n).take (3+1)) w2:=by
         have e:(nk v n).take (3+1)=(nk v n).take 3++[(rO v 3)]:=by simp[nk, *]
         rw[e, <-cH];exact kh
        clear sJ kh;go_wp2;go_roundw
        case rel=>exact⟨3+1,ab,bf,qg,dn.lJ dD,kS⟩
        case measure=>simp[intOf]
       ·have PY:¬(3:Int)<=(n:Int):=ab;go_wp2_with fail
        refine(jX _ _ _ 61 wr sJ (by have:=o8 3;omega) kI).mono ?_;rintro e w2⟨rfl,kh,dD⟩;have kS:w.heap.size<=w2.heap.size:=aE kI dD.size;have qg:EZ w.heap.size w.heap.size (acc++(nk v n).take (3+1)) w2:=by
         have e:(nk v n).take (3+1)=(nk v n).take 3++[61]:=by simp[nk, *]
         rw[e, <-cH];exact kh
        clear sJ kh;go_wp2;go_roundw
        case rel=>exact⟨3+1,ab,bf,qg,dn.lJ dD,kS⟩
        case measure=>simp[intOf]
      |4,_,sJ =>
       have arP:(nk v n).take 4=nk v n:=rfl;have OE:=PX r v n Og hn3 hnr hnk Z5.o;go_wp2_with fail
       refine⟨⟨r.extract n r.size,acc++nk v n,?_,rfl,?_,?_,sJ,dn,kI⟩,?_⟩
       ·rw[CZ];omega
       ·rw[CZ,aM];have hn4:(nk v n).length=4:=rfl;omega
       ·rw[HUN.o,OE,cH]
       ·show(r.extract n r.size).size<r.size;rw[CZ];omega
  ·have Bw:¬(0:Int)<(r.size:Int):=ab;have eX:uU s.data.toList=acc:=by rw[HUN.o,show r.data.toList=[]from bZ (show r.size=0 from ab)];simp[uU]
   go_wp2_with fail
   refine(AW _ _ _ wr hb hz).mono ?_;rintro e w1⟨rfl,dn⟩;go_wp2;go_ret;rw[eX];exact⟨rfl,hf.lJ dn⟩
