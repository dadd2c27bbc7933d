/- Lemmas for the law's walk. -/
import Derived.Test.YtjndhcngnghpiaaGreatDoorPp2
import Derived.Laws.AppendOwnNone
set_option maxRecDepth 100000
set_option maxHeartbeats 16000000
set_option linter.unusedSimpArgs false
namespace Go.Proofs.YtjndhcngnghpiaaGreatDoor
open Go.Proofs.Tryz
open Go.RowKit
variable {w w':World} {g k base:Nat} {p:UInt8->Bool} {x:UInt8} {R:Value->List ai->Prop} {S:dB} {v:Value} {ss:List ai}
def NN(a b c d:UInt8):Int:=bits .or .u32 (bits .or .u32 (bits .or .u32 ((a.toNat:Int)%4294967296) ((b.toNat:Int)%4294967296*256%4294967296)) ((c.toNat:Int)%4294967296*65536%4294967296)) ((d.toNat:Int)%4294967296*16777216%4294967296)
def DX(l:aK)(i:Nat):UInt8:=l.getD i 0
def qp(dK:Bool)(l:aK):Int:=if dK then NN (DX l 0) (DX l 1) (DX l 2) (DX l 3)else NN (DX l 3) (DX l 2) (DX l 1) (DX l 0)
theorem rZ(s:ai)(i:Nat)(h:i<s.size):DX s.data.toList i=s[i]:=by
 unfold DX;rw[List.getD_eq_getElem?_getD,byte_at s i h];rfl
theorem NP{a b:Int}(h:a=b):Ending.returned (.int .u32 a)=.returned (.int .u32 b):=by rw[h]
theorem vD(s:ai)(dK:Bool)(w:World)(hs:4<=s.size)(KQ:s.size<17592186044416) :
  aE 238 #[.string s,.bool dK] w fun e w'=>e=.returned (.int .u32 (qp dK s.data.toList))/\∃n,w'=w.drewN n:=by
 have h0:0<s.size:=ab;have h1:1<s.size:=ab;have h2:2<s.size:=ab;have h3:3<s.size:=ab
 have HWF:=O (show qp false s.data.toList=bits .or .u32 (bits .or .u32 (bits .or .u32 ((s[3].toNat:Int)%4294967296) ((s[2].toNat:Int)%4294967296*256%4294967296)) ((s[1].toNat:Int)%4294967296*65536%4294967296)) ((s[0].toNat:Int)%4294967296*16777216%4294967296)by rw[<-rZ s 0 h0, <-rZ s 1 h1, <-rZ s 2 h2, <-rZ s 3 h3];unfold qp NN;rw[ay ag])
 have HWT:=O (show qp true s.data.toList=bits .or .u32 (bits .or .u32 (bits .or .u32 ((s[0].toNat:Int)%4294967296) ((s[1].toNat:Int)%4294967296*256%4294967296)) ((s[2].toNat:Int)%4294967296*65536%4294967296)) ((s[3].toNat:Int)%4294967296*16777216%4294967296)by rw[<-rZ s 0 h0, <-rZ s 1 h1, <-rZ s 2 h2, <-rZ s 3 h3];unfold qp NN;rw[aB rfl]);cases dK
 ·go_enter func238,ntmps238;go_wp2;have i0:(0:Int)<(s.size:Int):=ab;have i1:(1:Int)<(s.size:Int):=ab;have i2:(2:Int)<(s.size:Int):=ab;have i3:(3:Int)<(s.size:Int):=ab;go_quiet (fail);go_wp2;go_ret;exact⟨NP HWF.o.symm,_,rfl⟩
 ·go_enter func238,ntmps238;go_wp2;have i0:(0:Int)<(s.size:Int):=ab;have i1:(1:Int)<(s.size:Int):=ab;have i2:(2:Int)<(s.size:Int):=ab;have i3:(3:Int)<(s.size:Int):=ab;go_quiet (fail);go_wp2;go_ret;exact⟨NP HWT.o.symm,_,rfl⟩
def lL(x:Int)(n:Nat):Int:=bits .or .u32 (x*2^n%4294967296) (x/2^(32-n))
theorem BB(x k:Int)(n:Nat)(w:World)(hk:0<=k)(sH:k<32)(hb:bits .and .u64 k 31=(n:Int))(hn:n<32) :
  aE 239 #[.int .u32 x,.int .i64 k] w fun e w'=>e=.returned (.int .u32 (lL x n))/\w=w':=by
 go_enter func239,ntmps239;go_wp2;go_ret;exact⟨rfl,rfl⟩
theorem Xa(x k:Int)(n:Nat)(w:World)(hk: -32<k)(sH:k<0)(hb:bits .and .u64 (k+18446744073709551616) 31=(n:Int))(hn:n<32) :
  aE 239 #[.int .u32 x,.int .i64 k] w fun e w'=>e=.returned (.int .u32 (lL x n))/\w=w':=by
 have hw:IntKind.u64.wrap k=k+18446744073709551616:=by
  have e:IntKind.u64.wrap k=k%18446744073709551616:=by simp[IntKind.wrap,IntKind.signed,IntKind.bits]
  rw[e];omega
 go_enter func239,ntmps239;go_wp2;go_ret;exact⟨rfl,rfl⟩
def tX(dK:Bool)(n i:Nat):UInt8:=if dK then(n/2^(8*i)%256).toUInt8 else(n/2^(56-8*i)%256).toUInt8
def xE(dK:Bool)(n:Nat):aK:=(List.range 8).map (tX dK n)
def uN(dK:Bool)(l:aK):aK:=l++[128]++List.replicate ((55-(l.length:Int)%64+64)%64).toNat 0++xE dK (l.length*8)
theorem ae4(w:World):(Instr.makeSlice 187 (.int .i64 8) (.int .i64 8)).run prog w=.ok (.slice (some ⟨w.heap.size,0,none⟩) 8 8) (w.alloc (.cells (tJ (List.replicate 8 0)).toArray 5)):=by
 obtain⟨i0,hi,pA,kP,kR⟩:=info_parts Nh;have h:=run_makeSlice w 187 5 i0 (.int .u8 0) underlying187 hi pA .i64 .i64 8 8 ag ag (by rw[kP];decide) (by rw[kR];decide) ag;rw[kP]at h;have e:madeCells (Value.int .u8 0).cells (Int.toNat 8*1)=(tJ (List.replicate 8 0)).toArray:=af;rw[e]at h;exact h
def xF(w:World)(g:Nat)(l:aK):Prop:=w.heap[g]?=some (.cells (tJ l).toArray 5 (0,0))
theorem xF.cell{l:aK}(h:xF w g l){j:Nat}{c:UInt8}(hj:l[j]?=some c):w.cell? ⟨g,j,none⟩=some (.int .u8 (c.toNat:Int)):=by
 obtain⟨hl,he⟩:=List.getElem?_eq_some_iff.1 hj;unfold xF at h;simp only[World.cell?,h];simp[tJ,hl,he]
theorem xF.free{l:aK}(h:xF w g l)(j:Nat):w.frozen? ⟨g,j,none⟩=false:=by
 unfold xF at h;simp[World.frozen?,h]
theorem xF.set{l:aK}(h:xF w g l)(j:Nat)(c:UInt8):xF (w.setCell ⟨g,j,none⟩ (.int .u8 (c.toNat:Int))) g (l.set j c):=by
 unfold xF at h ⊢;simp only[World.setCell,Array.getElem?_modify,h];simp[tJ,List.map_set]
theorem xF.text{l:aK}(h:xF w g l)(n c:Nat)(hn:n=l.length) :
  (convert 187 9 (.slice (some ⟨g,0,none⟩) n c)).run prog w=.ok (.string ⟨l.toArray⟩) w:=by
 subst hn;refine run_convert_bytes_back (P:=prog) w 187 9 5 ⟨g,0,none⟩ c l underlying187 underlying5 underlying9 ?_;intro j hj;have ea:(Addr.add ⟨g,0,none⟩ j)=⟨g,j,none⟩:=by unfold Addr.add;split<;>simp_all
 rw[ea];exact h.cell (List.getElem?_eq_getElem hj)
theorem nd(dK:Bool)(n:Nat):(xE dK n).length=8:=by simp[xE]
def th(dK:Bool)(n k:Nat):aK:=(xE dK n).take k++List.replicate (8-k) 0
theorem Cq(dK:Bool)(n k:Nat)(hk:k<8):th dK n (k+1)=(th dK n k).set k (tX dK n k):=by
 have hg:(xE dK n)[k]?=some (tX dK n k):=by simp[xE,hk]
 unfold th;rw[cD,hg];have e:List.replicate (8-k) (0:UInt8)=0 :: List.replicate (8-(k+1)) 0:=by
  rw[show 8-k=(8-(k+1))+1 from ab,List.replicate_succ]
 rw[e,List.set_append,ay (by rw[aQ,nd];omega)];rw[show k-((xE dK n).take k).length=0 from by rw[aQ,nd];omega];simp
theorem EH(dK:Bool)(n:Nat):th dK n 8=xE dK n:=by
 unfold th;rw[aG (by rw[nd];omega)];simp
theorem Cr:∀(k:Nat),(Lib.repeatL [0] k).length=k
 |0=>rfl
 |k+1=>by
  show(([0]:aK)++Lib.repeatL [0] k).length=k+1;rw[aM,Cr k];simp;omega
theorem EI:∀(k:Nat),Lib.repeatL [0] k=List.replicate k (0:UInt8)
 |0=>rfl
 |k+1=>by
  show([0]:aK)++Lib.repeatL [0] k=_;rw[EI k,List.replicate_succ];rfl
theorem EJ(n e:Nat):(((n/2^e%256).toUInt8.toNat:Nat):Int)=(n:Int)/2^e%256:=by
 rw[show(n/2^e%256).toUInt8.toNat=n/2^e%256 from by simp[Nat.toUInt8]];rw[Int.natCast_emod,Int.natCast_ediv,Int.natCast_pow];rfl
def Sw(dK:Bool)(n g:Nat)(w:World)(i:Value)(wr:World):Prop:=∃k:Nat,k<=8/\i=.int .i64 k/\xF wr g (th dK n k)/\Fr aX w wr
theorem NQ(s:ai)(dK:Bool)(w:World)(hs:s.size<17592186044416) :
  aE 237 #[.string s,.bool dK] w fun e w'=>e=.returned (.string ⟨(uN dK s.data.toList).toArray⟩)/\Fr aX w w':=by
 obtain⟨q,hq⟩:∃q:Nat,(55-(s.size:Int))%64=(q:Int):=⟨((55-(s.size:Int))%64).toNat,ab⟩;have ari:q<64:=ab;have ae5:=O (show uN dK s.data.toList=s.data.toList++[128]++Lib.repeatL [0] q++xE dK (s.size*8)by
  unfold uN;rw[EI,show s.data.toList.length=s.size from aS,show((55-(s.size:Int)%64+64)%64).toNat=q from ab])
 have uM:=Cr q;have Ny:=fun W=>ae4 W;go_enter func237,ntmps237;go_wp2_with fail
 refine(strings_Repeat ⟨#[0]⟩ q w ab (by show 1*q<=_;omega)).mono ?_;rintro e w1⟨rfl,sD⟩;have Xb:¬9223372036854775807<s.size+1+(Lib.repeatL [0] q).length:=ab;have dw:=fe sD;have HL:=O uM;clear uM sD;have ZA:xF (w1.alloc (.cells (tJ (List.replicate 8 0)).toArray 5)) w1.heap.size (th dK (s.size*8) 0):=by
  unfold xF;rw[aC];rfl
 have HR0:=O ZA;have A1:=dw.size;clear ZA;cases dK
 ·go_wp2;clear Ny;go_loopw[26] (Sw false (s.size*8) w1.heap.size w) (fun i _=>8-(intOf i).toNat)
  case atStart=>exact⟨0,ab,rfl,HR0.o,dw.alloc _⟩
  case round =>
   obtain⟨k,hk,rfl,lJ,cR⟩:=hrel;by_cases fE:k<8
   ·have hlen:(th false (s.size*8) k).length=8:=by unfold th;rw[aM,aQ,nd,fb];omega
    have hc:=lJ.cell (List.getElem?_eq_getElem (show k<(th false (s.size*8) k).length from ab));have hf:=lJ.free k;have qm:(k:Int)<8:=ab;have qy:=O (lJ.set k (tX false (s.size*8) k));have hsc:=O (Cq false (s.size*8) k fE);have Wc:=O (show((tX false (s.size*8) k).toNat:Int)=(s.size:Int)*8/2^(56-8*k)%256 from(EJ (s.size*8) (56-8*k)).trans (by rw[Int.natCast_mul];rfl));go_wp2;go_roundw
    case rel=>exact⟨k+1,ab,bh,by rw[hsc.o];have h:=qy.o;rw[Wc.o]at h;exact h,cR.gI (p:=⟨w1.heap.size,k,none⟩) A1 _⟩
    case measure=>simp[intOf];omega
   ·have hk8:k=8:=ab;subst hk8;rw[EH]at lJ;have Ap:=lJ.text 8 8 (by rw[nd]);have KV:(xE false (s.size*8)).length=8:=nd _ _;have ae6:¬9223372036854775807<s.size+1+(Lib.repeatL [0] q).length+(xE false (s.size*8)).length:=by have:=HL.o;omega
    have fl:=O (show(s++⟨#[128]⟩++⟨(Lib.repeatL [0] q).toArray⟩++⟨(xE false (s.size*8)).toArray⟩:ai)=⟨(uN false s.data.toList).toArray⟩from by
     apply Go.WideShapes.bytes_inj;rw[ae5.o];simp[gF])
    go_wp2;go_ret;exact⟨by rw[<-fl.o];rfl,cR⟩
 ·go_wp2;clear Ny;go_loopw[26] (Sw true (s.size*8) w1.heap.size w) (fun i _=>8-(intOf i).toNat)
  case atStart=>exact⟨0,ab,rfl,HR0.o,dw.alloc _⟩
  case round =>
   obtain⟨k,hk,rfl,lJ,cR⟩:=hrel;by_cases fE:k<8
   ·have hlen:(th true (s.size*8) k).length=8:=by unfold th;rw[aM,aQ,nd,fb];omega
    have hc:=lJ.cell (List.getElem?_eq_getElem (show k<(th true (s.size*8) k).length from ab));have hf:=lJ.free k;have qm:(k:Int)<8:=ab;have qy:=O (lJ.set k (tX true (s.size*8) k));have hsc:=O (Cq true (s.size*8) k fE);have Wc:=O (show((tX true (s.size*8) k).toNat:Int)=(s.size:Int)*8/2^(8*k)%256 from(EJ (s.size*8) (8*k)).trans (by rw[Int.natCast_mul];rfl));go_wp2;go_roundw
    case rel=>exact⟨k+1,ab,bh,by rw[hsc.o];have h:=qy.o;rw[Wc.o]at h;exact h,cR.gI (p:=⟨w1.heap.size,k,none⟩) A1 _⟩
    case measure=>simp[intOf];omega
   ·have hk8:k=8:=ab;subst hk8;rw[EH]at lJ;have Ap:=lJ.text 8 8 (by rw[nd]);have KV:(xE true (s.size*8)).length=8:=nd _ _;have ae6:¬9223372036854775807<s.size+1+(Lib.repeatL [0] q).length+(xE true (s.size*8)).length:=by have:=HL.o;omega
    have fl:=O (show(s++⟨#[128]⟩++⟨(Lib.repeatL [0] q).toArray⟩++⟨(xE true (s.size*8)).toArray⟩:ai)=⟨(uN true s.data.toList).toArray⟩from by
     apply Go.WideShapes.bytes_inj;rw[ae5.o];simp[gF])
    go_wp2;go_ret;exact⟨by rw[<-fl.o];rfl,cR⟩
def zI(l:aK):Bool:=l.all fO&&!l.isEmpty
theorem wP{l:aK}(h:l[k]?=some x):(l.take (k+1)).all p=((l.take k).all p&&p x):=by
 rw[cD,h];simp
theorem yi{l:aK}(h:l[k]?=some x)(hp:p x=false):l.all p=false:=by
 rw[iX];exact⟨x,cL h,by simp[hp]⟩
theorem BQ(s:ai)(w:World)(hs:s.size<17592186044416) :
  aE 96 #[.string s] w fun e w'=>e=.returned (.bool (zI s.data.toList))/\w=w':=by
 go_enter func96,ntmps96;go_wp2
 go_loop [6] (fun i=>∃k:Nat,k<=s.size/\i=.int .i64 k/\(s.data.toList.take k).all fO=true) (fun i=>s.size-(intOf i).toNat)
 case atStart=>exact⟨0,aW _,rfl,aS⟩
 case round =>
  obtain⟨k,hk,rfl,iH⟩:=hrel;have Ik:=O iH;clear iH;by_cases fE:k<s.size
  ·have dT:=O (byte_at s k fE);generalize hx:s[k]=x at dT;cases e1:fO x
   ·have fl:=O (show zI s.data.toList=false by unfold zI;rw[yi dT.o e1];rfl);go_wp2_with (go_at_call 153;refine(yf _ _).mono ?_;rintro e w' ⟨rfl,rfl⟩)
    go_ret;rw[fl.o];exact⟨rfl,rfl⟩
   ·have p9:=O (show(s.data.toList.take (k+1)).all fO=true by rw[wP dT.o,Ik.o,e1];rfl);go_wp2_with (go_at_call 153;refine(yf _ _).mono ?_;rintro e w' ⟨rfl,rfl⟩)
    go_round
    case rel=>exact⟨k+1,ab,bh,p9.o⟩
    case measure=>simp[intOf];omega
  ·have Nq:=O (show s.data.toList.all fO=true by have h:=Ik.o;rw[aG bH]at h;exact h);go_wp2;go_ret;refine⟨fS ?_,rfl⟩;unfold zI;rw[Nq.o,aN];simp
def sy(l:aK):aK:=l.flatMap (fun c=>if c==34||c==92 then [92,c]else [c])
def fK(l:aK):aK:=34 :: (sy l++[34])
theorem Nr(l:aK):(sy l).length<=2*l.length:=by
 induction l with
 |nil=>simp[sy]
 |cons c l ih=>simp[sy]at ih ⊢; split<;>simp<;>omega
theorem OC{l:aK}(h:l[k]?=some x):sy (l.take (k+1))=sy (l.take k)++(if x==34||x==92 then [92,x]else [x]):=by
 rw[cD,h];simp[sy]
def nJ(l:aK):Bool:=l.all mY
def OD(s:ai)(w:World)(e:Ending)(w':World):Prop :=
 e=.returned (.tuple (if nJ s.data.toList then #[.string ⟨(fK s.data.toList).toArray⟩,.nilIface]else #[.string ⟨#[]⟩,.iface 82 (.int .i64 3)]))/\Fr aX w w'
def aeE(s:ai)(w:World)(v i:Value)(wr:World):Prop :=
 ∃k:Nat,k<=s.size/\i=.int .i64 k/\Bytes w.heap.size wr v (34 :: sy (s.data.toList.take k))/\Fr aX w wr/\(s.data.toList.take k).all mY=true
theorem Eh(s:ai)(w:World)(hs:s.size<17592186044416) :
  aE 107 #[.string s] w (OD s w):=by
 go_enter func107,ntmps107;go_wp2;go_loopw[4,9] (aeE s w) (fun _ i _=>s.size-(intOf i).toNat)
 case atStart =>
  exact⟨0,aW _,rfl,Bytes.akl w 34,(ae _ _).alloc _,aS⟩
 case round =>
  obtain⟨k,hk,rfl,cQ,cR,iH⟩:=hrel;have Ik:=O iH;clear iH;have im:w.heap.size<=wr.heap.size:=cR.size;have Wu:=O (show(sy (s.data.toList.take k)).length<=2*k from aH (Nr _) (Nat.mul_le_mul_left 2 bH));obtain⟨av,cv,hv⟩:=cQ.form;subst hv;by_cases fE:k<s.size
  ·have dT:=O (byte_at s k fE);generalize hx:s[k]=x at dT;cases e1:mY x
   ·have fl:=O (show nJ s.data.toList=false from yi dT.o e1);go_wp2_with (go_at_call 159;refine(pH _ _).mono ?_;rintro e w' ⟨rfl,rfl⟩)
    go_ret2;refine⟨?_,cR⟩;rw[fl.o];rfl
   ·have p9:=O (show(s.data.toList.take (k+1)).all mY=true by rw[wP dT.o,Ik.o,e1];rfl);have OE:=O (OC dT.o);cases e2:x==34
    ·cases e3:x==92
     ·have n1:((x.toNat:Int)==34)=false:=by rw[<-e2];exact uA 34 ag
      have n2:((x.toNat:Int)==92)=false:=by rw[<-e3];exact uA 92 ag
      have RN:=O (show sy (s.data.toList.take (k+1))=sy (s.data.toList.take k)++[x]by rw[OE.o,e2,e3];rfl);clear e2 e3
      go_wp2_with (first|(at_builtin;refine jZ (o:=⟨some 36,_,_,_,_,_⟩) rfl _ _ rfl w.heap.size (.slice av _ cv) (34 :: sy (s.data.toList.take k)) rfl (by apply gl;exact cQ) ⟨wr.heap.size,0,none⟩ 1 x rfl (jk _ _ _ _) (by have:=Wu.o;simp;omega) bH ?_;intro v' w2 fy yh)|(go_at_call 159;refine(pH _ _).mono ?_;rintro e w' ⟨rfl,rfl⟩))
      go_roundw
      case rel=>exact⟨k+1,ab,bh,by rw[RN.o];exact fy,(cR.alloc _).fJ yh cQ.block,p9.o⟩
      case measure=>simp[intOf];omega
     ·have n1:((x.toNat:Int)==34)=false:=by rw[<-e2];exact uA 34 ag
      have n2:((x.toNat:Int)==92)=true:=by rw[<-e3];exact uA 92 ag
      have RN:=O (show sy (s.data.toList.take (k+1))=sy (s.data.toList.take k)++[92,x]by rw[OE.o];simp only[e2,e3,kd,d_]);clear e2 e3
      go_wp2_with (first|(at_builtin;refine jZ (o:=⟨some 30,_,_,_,_,_⟩) rfl _ _ rfl w.heap.size (.slice av _ cv) (34 :: sy (s.data.toList.take k)) rfl (by apply gl;exact cQ) ⟨wr.heap.size,0,none⟩ 1 92 rfl (jk _ _ _ _) (by have:=Wu.o;simp;omega) bH ?_;intro v1 w1 qW Il;have sD:wr.heap.size+1<=w1.heap.size:=by simpa using Il.size)|(at_builtin;refine jZ (o:=⟨some 36,_,_,_,_,_⟩) rfl _ _ rfl w.heap.size v1 (34 :: sy (s.data.toList.take k)++[92]) rfl (by apply gl;exact qW) ⟨w1.heap.size,0,none⟩ 1 x rfl (jk _ _ _ _) (by have:=Wu.o;simp;omega) bH ?_;intro v' w2 fy yh)|(go_at_call 159;refine(pH _ _).mono ?_;rintro e w' ⟨rfl,rfl⟩))
      go_roundw
      case rel=>exact⟨k+1,ab,bh,by rw[RN.o];simpa using fy,((((cR.alloc _).fJ Il cQ.block).alloc _).fJ yh qW.block),p9.o⟩
      case measure=>simp[intOf];omega
    ·have n1:((x.toNat:Int)==34)=true:=by rw[<-e2];exact uA 34 ag
     have RN:=O (show sy (s.data.toList.take (k+1))=sy (s.data.toList.take k)++[92,x]by rw[OE.o];simp only[e2,Bool.true_or,d_]);clear e2
     go_wp2_with (first|(at_builtin;refine jZ (o:=⟨some 30,_,_,_,_,_⟩) rfl _ _ rfl w.heap.size (.slice av _ cv) (34 :: sy (s.data.toList.take k)) rfl (by apply gl;exact cQ) ⟨wr.heap.size,0,none⟩ 1 92 rfl (jk _ _ _ _) (by have:=Wu.o;simp;omega) bH ?_;intro v1 w1 qW Il;have sD:wr.heap.size+1<=w1.heap.size:=by simpa using Il.size)|(at_builtin;refine jZ (o:=⟨some 36,_,_,_,_,_⟩) rfl _ _ rfl w.heap.size v1 (34 :: sy (s.data.toList.take k)++[92]) rfl (by apply gl;exact qW) ⟨w1.heap.size,0,none⟩ 1 x rfl (jk _ _ _ _) (by have:=Wu.o;simp;omega) bH ?_;intro v' w2 fy yh)|(go_at_call 159;refine(pH _ _).mono ?_;rintro e w' ⟨rfl,rfl⟩))
     go_roundw
     case rel=>exact⟨k+1,ab,bh,by rw[RN.o];simpa using fy,((((cR.alloc _).fJ Il cQ.block).alloc _).fJ yh qW.block),p9.o⟩
     case measure=>simp[intOf];omega
  ·have Nq:=O (show s.data.toList.take k=s.data.toList from aG bH)
   go_wp2_with (at_builtin;refine jZ (o:=⟨some 40,_,_,_,_,_⟩) rfl _ _ rfl w.heap.size (.slice av _ cv) (34 :: sy (s.data.toList.take k)) rfl (by apply gl;exact cQ) ⟨wr.heap.size,0,none⟩ 1 34 rfl (jk _ _ _ _) (by have:=Wu.o;simp;omega) bH ?_;intro v1 w1 qW Il;obtain⟨a1,c1,Hd⟩:=qW.form;subst Hd;have ht1:=qW.text;simp only[aM,List.length_cons,List.length_nil,bw]at ht1)
   go_ret2;refine⟨?_,(cR.alloc _).fJ Il cQ.block⟩;have aeF:nJ s.data.toList=true:=by rw[<-Nq.o];exact Ik.o
   rw[aB aeF,Nq.o];rfl
abbrev bG:=List ai
structure gz where
 aD:Bool
 host:ai
 port:Int
def gz.cells(o:gz):a_:=[.bool o.aD,.string o.host,.int .i64 o.port]
structure fX (D:Type) where
 scheme:Int
 aO:ai
 bC:ai
 cj:ai
 cy:Bool
 eZ:ai
 dr:Bool
 dom:D
def fX.cells(a:fX Value):a_:=[.int .i64 a.scheme,.string a.aO,.string a.bC,.string a.cj,.bool a.cy,.string a.eZ,.bool a.dr,a.dom]
structure aU (D:Type) where
 o:gz
 proxy:Bool
 user:ai
 pass:ai
 a:fX D
 count:Int
 paths:D
def aU.cells(g:aU Value):a_ :=
 [.bool g.o.aD,.string g.o.host,.int .i64 g.o.port,.bool g.proxy,.string g.user,.string g.pass,
  .int .i64 g.a.scheme,.string g.a.aO,.string g.a.bC,.string g.a.cj,.bool g.a.cy,.string g.a.eZ,.bool g.a.dr,g.a.dom,.int .i64 g.count,g.paths]
def fX.Reads(R:Value->List ai->Prop)(r:fX Value)(a:fX (List ai)):Prop :=
 r.scheme=a.scheme/\r.aO=a.aO/\r.bC=a.bC/\r.cj=a.cj/\r.cy=a.cy/\r.eZ=a.eZ/\r.dr=a.dr/\R r.dom a.dom
def aU.Reads(R:Value->List ai->Prop)(r:aU Value)(g:aU (List ai)):Prop :=
 r.o=g.o/\r.proxy=g.proxy/\r.user=g.user/\r.pass=g.pass/\r.a.Reads R g.a/\r.count=g.count/\R r.paths g.paths
theorem fX.Reads.mono{S:Value->List ai->Prop}{r:fX Value}{a:fX (List ai)}(h:r.Reads R a)(hs:∀v l,R v l->S v l):r.Reads S a :=
 ⟨h.1,h.2.1,h.2.2.1,h.2.2.2.1,h.2.2.2.2.1,h.2.2.2.2.2.1,h.2.2.2.2.2.2.1,hs _ _ h.2.2.2.2.2.2.2⟩
theorem aU.Reads.mono{S:Value->List ai->Prop}{r:aU Value}{g:aU (List ai)}(h:r.Reads R g)(hs:∀v l,R v l->S v l):r.Reads S g :=
 ⟨h.1,h.2.1,h.2.2.1,h.2.2.2.1,h.2.2.2.2.1.mono hs,h.2.2.2.2.2.1,hs _ _ h.2.2.2.2.2.2⟩
def gz.kM(a b:gz):Bool:=a.aD==b.aD&&(a.host.toList==b.host.toList&&a.port==b.port)
theorem toList_inj{a b:ai}:a.toList=b.toList↔a=b:=by
 constructor
 ·intro h;rw[Go.ByteArray.toList_eq,Go.ByteArray.toList_eq]at h;exact Go.WideShapes.bytes_inj h
 ·intro h;rw[h]
theorem gz.yl(a b:gz):a.kM b=true↔a=b:=by
 obtain⟨s,h,p⟩:=a;obtain⟨s',h',p'⟩:=b;simp only[gz.kM,cF,dP,gz.mk.injEq,toList_inj]
theorem j8(a b:gz)(w:World):(binOp .eql 24 (.agg #[.bool a.aD,.string a.host,.int .i64 a.port]) (.agg #[.bool b.aD,.string b.host,.int .i64 b.port])).run prog w=.ok (.bool (a.kM b)) w:=by
 go_simp;by_cases h1:a.aD=b.aD<;>by_cases h2:a.host.toList=b.host.toList<;>by_cases h3:a.port=b.port<;>simp[gz.kM,h1,h2,h3]
theorem Ay(a b:gz)(w:World):(binOp .neq 24 (.agg #[.bool a.aD,.string a.host,.int .i64 a.port]) (.agg #[.bool b.aD,.string b.host,.int .i64 b.port])).run prog w=.ok (.bool (!a.kM b)) w:=by
 go_simp;by_cases h1:a.aD=b.aD<;>by_cases h2:a.host.toList=b.host.toList<;>by_cases h3:a.port=b.port<;>simp[gz.kM,h1,h2,h3]
def cB(x:a_)(i:Nat):Bool:=match x[i]? with|some (.bool b)=>b|_=>false
def cS(x:a_)(i:Nat):ai:=match x[i]? with|some (.string s)=>s|_=>ByteArray.empty
def cI(x:a_)(i:Nat):Int:=match x[i]? with|some (.int _ n)=>n|_=>0
def aeJ(x:a_):gz:=⟨cB x 0,cS x 1,cI x 2⟩
theorem FU:∀(l:aK) (c:UInt8),¬0<=Lib.indexByte l c↔ ∀x∈l,x≠c
 |[],c=>by simp[Lib.indexByte]
 |x :: l,c=>by
  have ih:=FU l c;have hge:=Lib.indexByte_ge l c;show¬0<=(if x==c then(0:Int)else if Lib.indexByte l c== -1 then -1 else Lib.indexByte l c+1)↔_;by_cases hx:x=c
  ·subst hx;simp
  ·rw[ay (by simpa using hx)];by_cases h1:Lib.indexByte l c= -1
   ·rw[aB (by simpa using h1)];constructor
    ·intro _ y hy;rcases bE.1 hy with rfl|hy
     ·exact hx
     ·exact ih.1 (by rw[h1];decide) y hy
    ·intro _;decide
   ·rw[ay (by simpa using h1)];constructor
    ·intro h;omega
    ·intro h;have:=ih.2 (fun y hy=>h y (bV _ hy));omega
theorem ID(s:ai)(c:UInt8)(i:Nat)(w:World)(hs:s.size<4398046511104)(hi:Lib.indexByte s.data.toList c=(i:Int))(hl:i<s.size) :
  aE 133 #[.string s,.string ⟨#[c]⟩] w fun e w'=>e=.returned (.tuple #[.string (s.extract 0 i),.string (s.extract (i+1) s.size),.bool true])/\∃n,w'=w.drewN n:=by
 have VL:aE 187 #[.string s,.string ⟨#[c]⟩] w fun e w'=>e=.returned (.tuple #[.string (s.extract 0 i),.string (s.extract (i+1) s.size),.bool true])/\∃n,w'=w.drewN n:=by
  have q0:(0:Int)<=(i:Int):=ab;have q1:(i:Int)<=(s.size:Int):=ab;have q2:(i:Int)+1<=(s.size:Int):=ab;have q3:(0:Int)<=(i:Int)+1:=ab;go_enter func187,ntmps187;go_wp2_with fail
  refine(stringslite_Index_one s c w).mono ?_;rintro e w1⟨rfl,rfl⟩;rw[hi];go_wp2;go_quiet (fail);go_wp2
  go_ret3
  exact⟨rfl,_,rfl⟩
 go_enter func133,ntmps133;go_wp2_with fail
 refine VL.mono ?_;rintro e w1⟨rfl,n,rfl⟩;go_wp2
 go_ret3
 exact⟨rfl,n,rfl⟩
theorem Es(s:ai)(c:UInt8)(w:World)(hi:¬0<=Lib.indexByte s.data.toList c) :
  aE 133 #[.string s,.string ⟨#[c]⟩] w fun e w'=>e=.returned (.tuple #[.string s,.string ⟨#[]⟩,.bool false])/\w'=w:=by
 have VL:aE 187 #[.string s,.string ⟨#[c]⟩] w fun e w'=>e=.returned (.tuple #[.string s,.string ⟨#[]⟩,.bool false])/\w'=w:=by
  go_enter func187,ntmps187;go_wp2_with fail
  refine(stringslite_Index_one s c w).mono ?_;rintro e w1⟨rfl,rfl⟩;go_wp2
  go_ret3
  exact⟨rfl,rfl⟩
 go_enter func133,ntmps133;go_wp2_with fail
 refine VL.mono ?_;rintro e w1⟨rfl,rfl⟩;go_wp2
 go_ret3
 exact⟨rfl,rfl⟩
open Go.RowKit Go.Sort
def tT(ls:List (aK)):List (aK):=ls.mergeSort fun x y=>decide (x<=y)
theorem R2(base:Nat)(v:Value)(ls:List (aK))(w:World)(h:w.ownsRow base 9 1 v ls.length (ls.map encStr))(hl:ls.length<1000000) :
  aE 183 #[v] w fun e w'=>e=.returned (.tuple #[])/\w'.ownsRow base 9 1 v ls.length ((tT ls).map encStr)/\w.grownBy w' v.ownBlock:=by
 rcases h.2 with ⟨rfl,h0⟩|⟨g,cap,cur,rfl,im,hb,h1,h2,h3,h4⟩
 ·obtain rfl:ls=[]:=dG.1 h0;refine(slices_Sort_string_none none 0 w).mono ?_;rintro e w'⟨rfl,rfl⟩;exact⟨rfl,by rw[show tT []=[]by simp[tT]];exact h,⟨rfl,rfl,rfl,az _,fun _ _ _=>rfl⟩⟩
 ·refine(slices_Sort_string g 0 cap ls w (holds_of_block hb (by simpa using h4)) (bg hb) ab).mono ?_;rintro e w'⟨rfl,n,os,rfl⟩;exact⟨rfl,ownsRow_sorted aS im hb h1 h2 h3,grownBy_sorted _⟩
theorem IG(base:Nat)(v:Value)(ls:List (aK))(w:World)(h:w.ownsRow base 9 1 v ls.length (ls.map encStr))(hl:ls.length<1000000) :
  aE 184 #[v] w fun e w'=>∃u,e=.returned u/\w'.ownsRow base 9 1 u (Lib.compact ls).length ((Lib.compact ls).map encStr)/\w.grownBy w' v.ownBlock:=by
 rcases h.2 with ⟨rfl,h0⟩|⟨g,cap,cur,rfl,im,hb,h1,h2,h3,h4⟩
 ·obtain rfl:ls=[]:=dG.1 h0;refine(slices_Compact_string_empty none 0 w).mono ?_;rintro e w'⟨rfl,rfl⟩;exact⟨_,rfl,h,⟨rfl,rfl,rfl,az _,fun _ _ _=>rfl⟩⟩
 ·refine(slices_Compact_string g 0 cap ls w (holds_of_block hb (by simpa using h4)) ab h1).mono ?_;have hle:=Lib.compact_length_le ls;obtain⟨ts,hts⟩:∃ts:List (aK),ts=Lib.compact ls++List.replicate (ls.length-(Lib.compact ls).length) []:=⟨_,rfl⟩;have hlen:ts.length=ls.length:=by rw[hts,aM,fb];omega
  rw[<-hts];rintro e w'⟨rfl,q,rfl⟩;have hw:=heap_sorted (n:=q) (os:= #[]) ts.toArray hb;have hg:=grownBy_sorted (w:=w) (g:=g) (n:=q) (os:= #[]) ts.toArray;rw[grow_empty]at hw hg;have tk:=take_putCells cur ts ab;refine⟨_,rfl,⟨aS,.inr ⟨g,cap,_,rfl,im,hw,ab,h2,by simp[putCells,h3],?_⟩⟩,hg⟩
  have e1:(putCells encStr 0 ts.toArray cur).toList.take (Lib.compact ls).length=((putCells encStr 0 ts.toArray cur).toList.take ts.length).take (Lib.compact ls).length:=by
   rw[kj,dJ ab]
  rw[Nat.mul_one,e1,tk,hts,bI,List.take_left' aS]
def Sep(w:World)(v v':Value):Prop:=v'.ownBlock=v.ownBlock\/∀k,v'.ownBlock=some k->w.heap.size<=k
theorem B8{P:Program}(w:World)(base:Nat)(t ty e:TypeId)(i:TypeInfo)(z:Value)(size bytes:Nat)(ht:P.underlying t=some (.slice e))(hi:P.info? e=some i)(hz:i.zero=some z)
  (Ex:i.size=size)(qC:i.bytes=bytes)(hzs:z.cells.size=size)(xl:0<size)
  (v:Value)(n:Nat)(xs:a_)(cQ:w.ownsRow base e size v n xs)
  (a:Addr)(m c:Nat)(news:a_)(hl:news.length=m*size)(kr:∀j u,news[j]?=some u->w.cell? (a.add j)=some u)(h1:∀u∈news,u.oneCell'=true)
  (h63:n+m<=maxLen)(B9:(n+m)*bytes<=140737488355328)(im:base<=w.heap.size) :
  ∃v' w',(Builtin.append_ #[t,t] ty #[v,.slice (some a) m c]).run P w=.ok v' w'/\w'.ownsRow base e size v' (n+m) (xs++news)/\w.grownBy w' v.ownBlock/\Sep w v v':=by
 obtain⟨v',w',hr,h2,h3,_⟩:=run_append_own (P:=P) w base t ty e i z size bytes ht hi hz Ex qC hzs xl v n xs cQ a m c news hl kr h1 h63 B9 im;refine⟨v',w',hr,h2,h3,?_⟩;rcases cQ.2 with ⟨rfl,rfl⟩|⟨g,cap,cur,rfl,Q5,hg,hnc,hcm,hcs,q_⟩
 ·have hx:xs=[]:=b_ (by simpa using cQ.1);subst hx;obtain⟨v2,w2,pN,h22,_,_⟩:=run_append_own (P:=P) w w.heap.size t ty e i z size bytes ht hi hz Ex qC hzs xl (.slice none 0 0) 0 [] (World.ownsRow_nil _ _ _ _) a m c news hl kr h1 h63 B9 (az _);rw[hr]at pN;injection pN with e1 e2
  subst e1;exact Or.inr fun k hk=>(h22.lt k hk).1
 ·by_cases Zk:n+m<=cap
  ·subst Ex;have B_:n*i.size+news.length<=cur.size:=by rw[hl,hcs, <-dD];exact bN _ Zk
   have pN:=run_append_room (P:=P) w t ty e i ht hi g n cap cur hg a m c news hl kr h1 Zk B_;rw[hr]at pN;injection pN with e1 e2
   subst e1;exact Or.inl rfl
  ·subst Ex;subst qC;have FW:n+m<=9223372036854775807:=by simp only[maxLen]at h63;omega
   have holds:∀j u,xs[j]?=some u->w.cell? ((⟨g,0,none⟩:Addr).add j)=some u:=cQ.cells (g:=g) rfl;have pN:=run_append_grow (P:=P) w t ty e i z ht hi hz ⟨g,0,none⟩ n cap xs cQ.1 holds a m c news hl kr ab ab (growslice_fits ab B9);rw[hr]at pN;injection pN with e1 e2
   subst e1;exact Or.inr fun k hk=>by simp[Value.ownBlock]at hk;omega
theorem yu{P:Program}{w:World}{ops:Array Oper}{rest:List Oper}{o:Oper}{a:Act}{Q:Exit->Act->World->Prop}(yc:o.guard=none)(s x:Operand)(t:TypeId)
  (ho:o.op=.call {callee:=.builtin .append,args:= #[s,x],argTypes:= #[t,t]})
  (base:Nat)(e:TypeId)(i:TypeInfo)(z:Value)(size bytes:Nat)(ht:P.underlying t=some (.slice e))(hi:P.info? e=some i)(hz:i.zero=some z)
  (Ex:i.size=size)(qC:i.bytes=bytes)(hzs:z.cells.size=size)(xl:0<size)
  (v:Value)(n:Nat)(xs:a_)(hs:a.eval s=v)(cQ:w.ownsRow base e size v n xs)
  (ad:Addr)(m c:Nat)(news:a_)(hx:a.eval x=.slice (some ad) m c)(hl:news.length=m*size)(kr:∀j u,news[j]?=some u->w.cell? (ad.add j)=some u)(h1:∀u∈news,u.oneCell'=true)
  (h63:n+m<=maxLen)(B9:(n+m)*bytes<=140737488355328)(im:base<=w.heap.size)
  (h:∀v' w',w'.ownsRow base e size v' (n+m) (xs++news)->w.grownBy w' v.ownBlock->Sep w v v'->wpList P ops Q rest (a.put o.dst v') w'):wpList P ops Q (o :: rest) a w :=
 wpList_plain yc fun _ hK=>by
  obtain⟨v',w',hr,h2,h3,h4⟩:=B8 (P:=P) w base t o.type e i z size bytes ht hi hz Ex qC hzs xl v n xs cQ ad m c news hl kr h1 h63 B9 im;unfold Oper.wp execOp;simp only[ho,resolve,invoke,builtin,Sem.run_bind,Sem.run_pure,Result.andThen_ok,eM,cA,du,hs,hx,hr];exact hK _ _ (h v' w' h2 h3 h4)
theorem AA{ops:Array Oper}{rest:List Oper}{o:Oper}{a:Act}{Q:Exit->Act->World->Prop}{w:World}(yc:o.guard=none)(s x:Operand)
  (ho:o.op=.call {callee:=.builtin .append,args:= #[s,x],argTypes:= #[125,125]})(base:Nat)(v:Value)(l:List ai)(hs:a.eval s=v)(cQ:Strs base w v l)
  (ad:Addr)(c:Nat)(y:ai)(hx:a.eval x=.slice (some ad) 1 c)(hy:w.cell? ad=some (.string y))(hlen:l.length<4398046511104)(im:base<=w.heap.size)
  (h:∀v' w',Strs base w' v' (l++[y])->w.grownBy w' v.ownBlock->Sep w v v'->wpList prog ops Q rest (a.put o.dst v') w'):wpList prog ops Q (o :: rest) a w:=by
 obtain⟨i0,hi,pA,kP,kR⟩:=info_parts ye;refine yu yc s x 125 ho base 9 i0 (.string ⟨#[]⟩) 1 16 underlying125 hi pA kP kR rfl ag v l.length (l.map Value.string) hs cQ ad 1 c [.string y] hx rfl ?_ ?_ ?_ ?_ im ?_
 ·intro j u hj
  match j,hj with
  |0,hj=>simp at hj;subst hj;simpa[Addr.add]using hy
 ·intro u hu;simp at hu;subst hu;rfl
 ·unfold maxLen;omega
 ·omega
 ·intro v' w' h1 h2 h3;exact h v' w' (by unfold Strs;simpa using h1) h2 h3
theorem IH{ops:Array Oper}{rest:List Oper}{o:Oper}{a:Act}{Q:Exit->Act->World->Prop}{w:World}(yc:o.guard=none)(s x:Operand)
  (ho:o.op=.call {callee:=.builtin .append,args:= #[s,x],argTypes:= #[125,125]})(base:Nat)(v:Value)(l:List ai)(hs:a.eval s=v)(cQ:Strs base w v l)
  (vx:Value)(m:List ai)(hx:a.eval x=vx)(hm:ig w vx m)(hlen:l.length+m.length<4398046511104)(im:base<=w.heap.size)
  (h:∀v' w',Strs base w' v' (l++m)->w.grownBy w' v.ownBlock->wpList prog ops Q rest (a.put o.dst v') w'):wpList prog ops Q (o :: rest) a w:=by
 obtain⟨i0,hi,pA,kP,kR⟩:=info_parts ye;obtain⟨ax,cx,gi⟩:=hm.form;cases ax with
 |none =>
  obtain⟨Wx,h2⟩:m=[]/\cx=0:=by
   rcases hm with ⟨a',c',hv,hs,hc⟩|⟨bk,o',c,hf,_⟩
   ·rw[gi]at hv;injection hv with e1 e2 e3
    exact⟨hs,e3.trans (hc e1.symm)⟩
   ·rw[gi]at hf;injection hf with e1;cases e1
  subst Wx;have R7:a.eval x=.slice none 0 0:=by rw[hx,gi,h2];rfl
  refine wpList_append_own_none yc s x 125 ho base 9 i0 1 underlying125 hi v l.length (l.map Value.string) hs cQ R7 ?_;exact h v w (by rw[eX];exact cQ) ⟨rfl,rfl,rfl,az _,fun _ _ _=>rfl⟩
 |some ad =>
  refine wpList_append_own w yc s x 125 ho base 9 i0 (.string ⟨#[]⟩) 1 16 underlying125 hi pA kP kR rfl ag v l.length (l.map Value.string) hs cQ ad m.length cx (m.map Value.string) (hx.trans gi) aS ?_ ?_ ?_ ?_ im ?_
  ·intro j u hj;rcases hm with ⟨_,_,_,e,_⟩|⟨bk,o',c,hf,g1,g2,g3,g4⟩
   ·subst e;simp at hj
   ·rw[hf]at gi;cases gi;obtain⟨y,hy,rfl⟩:∃y,m[j]?=some y/\Value.string y=u:=by
     rw[List.getElem?_map]at hj;cases hmj:m[j]? with
     |none=>rw[hmj]at hj;cases hj
     |some y=>rw[hmj]at hj;exact⟨y,rfl,by simpa using hj⟩
    have ea:(Addr.add ⟨bk,o',none⟩ j)=⟨bk,o'+j,none⟩:=by unfold Addr.add;split<;>simp_all
    rw[ea];exact g4 j y hy
  ·intro u hu;obtain⟨y,_,rfl⟩:=cz.1 hu;rfl
  ·unfold maxLen;omega
  ·omega
  ·intro v' w' h1 h2 _;exact h v' w' (by unfold Strs;simpa using h1) h2
def Still(base:Nat)(w:World)(k:Nat):Prop:=k<base\/∃c f,w.heap[k]?=some (.cells c 9 f)
def rJ(base:Nat)(w:World)(S:dB):Prop:=∀k,S k->k<w.heap.size->base<=k/\∀c f,w.heap[k]?≠some (.cells c 9 f)
theorem rJ.none(base:Nat)(w:World):rJ base w aX:=fun _ h=>absurd h id
theorem Still.fr(h:Still base w k)(hf:Fr S w w')(ho:rJ base w S):Still base w' k:=by
 rcases h with h|⟨c,f,h⟩
 ·exact Or.inl h
 ·exact Or.inr ⟨c,f,hf.keep h (fun hs=>(ho k hs (bg h)).2 c f h)⟩
structure df (base:Nat) (w:World) (v:Value) (ss:List ai):Prop where
 rd:ig w v ss
 own:∀k,v.ownBlock=some k->ss≠ []->k<w.heap.size/\Still base w k
 re:ss.length<4398046511104
theorem ig.empty(h:ig w v []):ig w' v []:=by
 rcases h with h|⟨bk,o,c,hv,_⟩
 ·exact Or.inl h
 ·exact Or.inl ⟨_,_,hv,rfl,fun e=>by cases e⟩
theorem df.fr(h:df base w v ss)(hf:Fr S w w')(ho:rJ base w S):df base w' v ss:=by
 refine⟨?_,fun k hk hs=>⟨cN (h.own k hk hs).1 hf.size,(h.own k hk hs).2.fr hf ho⟩,h.re⟩;by_cases he:ss=[]
 ·subst he;exact h.rd.empty
 refine h.rd.fr hf (fun k hk hs=>?_);obtain⟨hl,iQ⟩:=h.own k hk he;have sH:=ho k hs hl;rcases iQ with g|⟨c,f,g⟩
 ·omega
 ·exact sH.2 c f g
theorem df.dx(h:df base w v ss)(hf:Fr aX w w'):df base w' v ss:=h.fr hf (rJ.none _ _)
theorem df.nil(base:Nat)(w:World):df base w (.slice none 0 0) []:=⟨ig.nil w,fun k hk=>by simp[Value.ownBlock]at hk,aS⟩
theorem Strs.in{base b:Nat}(h:Strs b w v ss)(hl:ss.length<4398046511104):df base w v ss:=by
 refine⟨h.at,fun k hk _=>?_,hl⟩;rcases h.2 with ⟨hv,_⟩|⟨g,cap,cur,hv,hg,hh,_⟩
 ·rw[hv]at hk;simp[Value.ownBlock]at hk
 ·rw[hv]at hk;simp[Value.ownBlock]at hk;subst hk;exact⟨bg hh,Or.inr ⟨_,_,hh⟩⟩
inductive ld {α β:Type} (R:α->β->Prop):List α->List β->Prop
 |nil:ld R [] []
 |cons {a b l m}:R a b->ld R l m->ld R (a :: l) (b :: m)
namespace ld
variable {α β : Type} {R T : α → β → Prop} {l l' : List α} {m m' : List β}
theorem len(h:ld R l m):l.length=m.length:=by induction h with
 |nil=>rfl
 |cons _ _ ih=>simp[ih]
theorem mono(h:ld R l m)(hs:∀a b,R a b->T a b):ld T l m:=by induction h with
 |nil=>exact .nil
 |cons h _ ih=>exact .cons (hs _ _ h) ih
theorem get(h:ld R l m){i:Nat}{a:α}(hi:l[i]?=some a):∃b,m[i]?=some b/\R a b:=by
 induction h generalizing i with
 |nil=>simp at hi
 |cons h _ ih =>
  cases i with
  |zero=>simp at hi;subst hi;exact⟨_,rfl,h⟩
  |succ i=>simpa using ih (by simpa using hi)
theorem app(h:ld R l m)(h':ld R l' m'):ld R (l++l') (m++m'):=by induction h with
 |nil=>exact h'
 |cons h _ ih=>exact .cons h ih
theorem take(h:ld R l m)(n:Nat):ld R (l.take n) (m.take n):=by
 induction h generalizing n with
 |nil=>simp;exact .nil
 |cons h _ ih=>cases n with
  |zero=>exact .nil
  |succ n=>exact .cons h (ih n)
theorem drop(h:ld R l m)(n:Nat):ld R (l.drop n) (m.drop n):=by
 induction h generalizing n with
 |nil=>simp;exact .nil
 |cons h t ih=>cases n with
  |zero=>exact .cons h t
  |succ n=>exact ih n
theorem filter(h:ld R l m){p:α->Bool}{q:β->Bool}(Zq:∀a b,R a b->p a=q b):ld R (l.filter p) (m.filter q):=by
 induction h with
 |nil=>exact .nil
 |cons h _ ih =>
  rw[List.filter_cons,List.filter_cons,Zq _ _ h];split
  ·exact .cons h ih
  ·exact ih
end ld
theorem Fr.setRow{a w:World}(h:Fr S a w)(hg:g<a.heap.size->S g)(cs:bW):Fr S a (w.setRow g cs) :=
 ⟨h.os,h.tape,h.output,by simpa[World.setRow]using h.size,fun k hk hn=>by
  rw[<-h.block k hk hn];simp only[World.setRow,Array.getElem?_modify];by_cases e:g=k
  ·subst e;exact absurd (hg hk) hn
  ·simp[e]⟩
def own(v:Value):dB:=fun k=>v.ownBlock=some k
theorem OwnRows.off{base b k:Nat}{e:TypeId}{xs:cX}(h:OwnRows b e k w v xs)(hb:base<=b)(he:e≠9):rJ base w (own v):=by
 intro g hg _;obtain⟨cap,cur,_,h1,h2,_⟩:=h.open hg;exact⟨aH hb h1,fun c f e2=>by rw[h2]at e2;cases e2;exact he rfl⟩
theorem Fr.NF(o:Obj)(h:(w.alloc o).grownBy w' v.ownBlock):Fr (own v) w w' :=
 ((ae (own v) w).alloc o).grown h (fun _ hk _=>hk)
abbrev mG := @rJ.none
open Go.RowKit
def kt:Nat->Nat->aK
 |0,_=>[]
 |k+1,n=>kt k (n/16)++[Ck (n%16).toUInt8]
theorem nC:∀k n,(kt k n).length=k
 |0,_=>rfl
 |k+1,n=>by rw[kt,aM,nC k];rfl
theorem AG:∀j n,Ck (n/16^j%16).toUInt8 :: kt j n=kt (j+1) n
 |0,n=>by simp[kt]
 |j+1,n=>by
  have h:=AG j (n/16);rw[Nat.div_div_eq_div_mul,show 16*16^j=16^(j+1)from by rw[Nat.pow_succ];omega]at h;show _ :: (kt j (n/16)++[_])=kt (j+1) (n/16)++[_];rw[<-h];rfl
theorem AH:∀d,kt d 0=List.replicate d 48
 |0=>rfl
 |d+1=>by
  rw[kt,show(0:Nat)/16=0 from rfl,AH d,List.replicate_succ'];rfl
theorem Cm:∀k d n,n<16^k->List.replicate d 48++kt k n=kt (k+d) n
 |0,d,n,h=>by
  obtain rfl:n=0:=by simpa using h
  rw[bw,AH d];exact eX _
 |k+1,d,n,h=>by
  have h2:n/16<16^k:=by rw[Nat.pow_succ]at h;omega
  rw[show k+1+d=(k+d)+1 from ab,kt,kt, <-Cm k d (n/16) h2,cK]
def jr(n:Nat):aK:=kt 8 n
def Cs(dK:Bool)(x:Int)(i:Nat):UInt8:=if dK then(x/2^(8*i)%256).toNat.toUInt8 else(x/2^(24-8*i)%256).toNat.toUInt8
def pQ(dK:Bool)(x:Int):aK:=(List.range 4).map (Cs dK x)
def kC(dK:Bool)(ws:List Int):aK:=ws.flatMap (pQ dK)
def ox(dK:Bool)(ws:List Int):aK:=xC (kC dK ws)
theorem tj(dK:Bool)(x:Int):(pQ dK x).length=4:=by simp[pQ]
theorem Ct(dK:Bool)(x:Int)(j:Nat)(hj:j<4):(pQ dK x).take (j+1)=(pQ dK x).take j++[Cs dK x j]:=by
 have hg:(pQ dK x)[j]?=some (Cs dK x j):=by simp[pQ,hj]
 rw[cD,hg];rfl
theorem nN(dK:Bool)(ws:List Int):(kC dK ws).length=4*ws.length:=by
 unfold kC
 induction ws with
 |nil=>rfl
 |cons a l ih=>rw[List.flatMap_cons,aM,tj,ih,List.length_cons];omega
theorem yF(dK:Bool){ws:List Int}{x:Int}(h:ws[k]?=some x):kC dK (ws.take (k+1))=kC dK (ws.take k)++pQ dK x:=by
 rw[cD,h];simp[kC]
theorem I'(x:Int)(e:Nat):(((x/2^e%256).toNat.toUInt8.toNat:Nat):Int)=x/2^e%256:=by
 have h1:=Int.emod_nonneg (x/2^e) (show(256:Int)≠0 from ag);have h2:=Int.emod_lt_of_pos (x/2^e) (show(0:Int)<256 from ag);generalize x/2^e%256=y at *
 rw[show y.toNat.toUInt8.toNat=y.toNat from by simp[Nat.toUInt8];omega];omega
def ZB(dK:Bool)(ws:List Int)(w:World)(v i:Value)(wr:World):Prop:=∃k:Nat,k<=ws.length/\i=.int .i64 k/\Bytes w.heap.size wr v (kC dK (ws.take k))/\Fr aX w wr
def ae7(dK:Bool)(pre:aK)(x:Int)(w:World)(v i:Value)(wr:World):Prop:=∃j:Nat,j<=4/\i=.int .i64 j/\Bytes w.heap.size wr v (pre++(pQ dK x).take j)/\Fr aX w wr
theorem AI(g:Nat)(ws:List Int)(dK:Bool)(w:World)(hl:ws.length<=8)(hg:g<w.heap.size)(hc:∀(j:Nat) x,ws[j]?=some x->w.cell? ⟨g,j,none⟩=some (.int .u32 x))(hx:∀x∈ws,0<=x/\x<4294967296) :
  aE 240 #[.slice (some ⟨g,0,none⟩) ws.length ws.length,.bool dK] w fun e w'=>e=.returned (.string ⟨(ox dK ws).toArray⟩)/\Fr aX w w':=by
 have HC:=O hc;have HX:=O hx;clear hc hx;cases dK
 all_goals
  go_enter func240,ntmps240;go_wp2
 ·go_loopw[5,11] (ZB false ws w) (fun _ i _=>ws.length-(intOf i).toNat)
  case atStart=>exact⟨0,aW _,rfl,Bytes.nil _ _,ae _ _⟩
  case round =>
   obtain⟨k,hk,rfl,cQ,cR⟩:=hrel;by_cases fE:k<ws.length
   ·have dT:=O (List.getElem?_eq_getElem fE);obtain⟨x0,x1⟩:=HX.o _ (bQ fE);have hcell:wr.cell? ⟨g,k,none⟩=some (.int .u32 ws[k]):=(cR.cell (p:=⟨g,k,none⟩) hg id).trans (HC.o k _ dT.o);generalize ws[k]=x at *
    have He:=O (yF false dT.o);have DI:=O (show(kC false (ws.take k)).length<=32 by rw[nN,aQ];omega);generalize kC false (ws.take k)=pre at *
    obtain⟨av,cv,hv⟩:=cQ.form;subst hv;go_wp2;clear hcell;go_loopw[5,15] (ae7 false pre x w) (fun _ i _=>4-(intOf i).toNat)
    case atStart=>exact⟨0,ab,rfl,by simpa using cQ,cR⟩
    case round =>
     obtain⟨j,hj,rfl,fy,km⟩:=hrel;have im:w.heap.size<=wr.heap.size:=km.size;obtain⟨av,cv,hv⟩:=fy.form;subst hv;by_cases hj4:j<4
     ·have Hf:(j:Int)<4:=ab;have jP:=O (Ct false x j hj4);have qC:x/2^(24-8*j)%256=((Cs false x j).toNat:Int):=(I' x (24-8*j)).symm;generalize Cs false x j=c at *
      have Sx:=O (show(pre++(pQ false x).take j).length<100 by rw[aM,aQ,tj];have:=DI.o;omega);go_wp2_with (at_builtin;refine jZ rfl _ _ rfl w.heap.size (.slice av _ cv) (pre++(pQ false x).take j) rfl (by apply gl;exact fy) ⟨wr.heap.size,0,none⟩ 1 c rfl (jk _ _ _ _) (by have:=Sx.o;omega) bH ?_;intro v' w2 fo yh)
      go_roundw
      case rel=>exact⟨j+1,ab,bh,by rw[jP.o, <-cK];exact fo,(km.alloc _).fJ yh fy.block⟩
      case measure=>simp[intOf];omega
     ·have hj5:j=4:=ab;subst hj5;have fo:Bytes w.heap.size wr (.slice av (pre++(pQ false x).take 4).length cv) (pre++pQ false x):=by
       have h:=fy;rw[aG (by rw[tj];omega)]at h ⊢; exact h
      have HO:=O fo;clear fo fy;go_wp2;go_roundw
      case rel=>exact⟨k+1,ab,bh,by rw[He.o];exact HO.o,km⟩
      case measure=>simp[intOf];omega
   ·rw[aG ab]at cQ;have DJ:(kC false ws).length<=32:=by rw[nN];omega
    have iQ:=O (show ox false ws=xC (kC false ws)from rfl);generalize kC false ws=bs at *
    obtain⟨av,cv,hv⟩:=cQ.form;subst hv;have Ap:=cQ.text;go_wp2_with fail
    refine(NM ⟨bs.toArray⟩ wr (by show bs.toArray.size<_;simp;omega)).mono ?_;rintro e w3⟨rfl,iG⟩;go_wp2;go_ret;rw[iQ.o];exact⟨rfl,cR.trans iG⟩
 ·go_loopw[5,11] (ZB true ws w) (fun _ i _=>ws.length-(intOf i).toNat)
  case atStart=>exact⟨0,aW _,rfl,Bytes.nil _ _,ae _ _⟩
  case round =>
   obtain⟨k,hk,rfl,cQ,cR⟩:=hrel;by_cases fE:k<ws.length
   ·have dT:=O (List.getElem?_eq_getElem fE);obtain⟨x0,x1⟩:=HX.o _ (bQ fE);have hcell:wr.cell? ⟨g,k,none⟩=some (.int .u32 ws[k]):=(cR.cell (p:=⟨g,k,none⟩) hg id).trans (HC.o k _ dT.o);generalize ws[k]=x at *
    have He:=O (yF true dT.o);have DI:=O (show(kC true (ws.take k)).length<=32 by rw[nN,aQ];omega);generalize kC true (ws.take k)=pre at *
    obtain⟨av,cv,hv⟩:=cQ.form;subst hv;go_wp2;clear hcell;go_loopw[5,15] (ae7 true pre x w) (fun _ i _=>4-(intOf i).toNat)
    case atStart=>exact⟨0,ab,rfl,by simpa using cQ,cR⟩
    case round =>
     obtain⟨j,hj,rfl,fy,km⟩:=hrel;have im:w.heap.size<=wr.heap.size:=km.size;obtain⟨av,cv,hv⟩:=fy.form;subst hv;by_cases hj4:j<4
     ·have Hf:(j:Int)<4:=ab;have jP:=O (Ct true x j hj4);have qC:x/2^(8*j)%256=((Cs true x j).toNat:Int):=(I' x (8*j)).symm;generalize Cs true x j=c at *
      have Sx:=O (show(pre++(pQ true x).take j).length<100 by rw[aM,aQ,tj];have:=DI.o;omega);go_wp2_with (at_builtin;refine jZ rfl _ _ rfl w.heap.size (.slice av _ cv) (pre++(pQ true x).take j) rfl (by apply gl;exact fy) ⟨wr.heap.size,0,none⟩ 1 c rfl (jk _ _ _ _) (by have:=Sx.o;omega) bH ?_;intro v' w2 fo yh)
      go_roundw
      case rel=>exact⟨j+1,ab,bh,by rw[jP.o, <-cK];exact fo,(km.alloc _).fJ yh fy.block⟩
      case measure=>simp[intOf];omega
     ·have hj5:j=4:=ab;subst hj5;have fo:Bytes w.heap.size wr (.slice av (pre++(pQ true x).take 4).length cv) (pre++pQ true x):=by
       have h:=fy;rw[aG (by rw[tj];omega)]at h ⊢; exact h
      have HO:=O fo;clear fo fy;go_wp2;go_roundw
      case rel=>exact⟨k+1,ab,bh,by rw[He.o];exact HO.o,km⟩
      case measure=>simp[intOf];omega
   ·rw[aG ab]at cQ;have DJ:(kC true ws).length<=32:=by rw[nN];omega
    have iQ:=O (show ox true ws=xC (kC true ws)from rfl);generalize kC true ws=bs at *
    obtain⟨av,cv,hv⟩:=cQ.form;subst hv;have Ap:=cQ.text;go_wp2_with fail
    refine(NM ⟨bs.toArray⟩ wr (by show bs.toArray.size<_;simp;omega)).mono ?_;rintro e w3⟨rfl,iG⟩;go_wp2;go_ret;rw[iQ.o];exact⟨rfl,cR.trans iG⟩
def abw(n:Nat):UInt8:=if n<26 then(n+65).toUInt8 else if n<52 then(n+71).toUInt8 else if n<62 then(n-4).toUInt8 else if n=62 then 43 else 47
def Bc(a b c:UInt8):Nat:=a.toNat*65536+b.toNat*256+c.toNat
def rM(v i:Nat):UInt8:=abw (v/2^(18-6*i)%64)
def uR:aK->aK
 |[]=>[]
 |[a]=>[rM (Bc a 0 0) 0,rM (Bc a 0 0) 1,61,61]
 |[a,b]=>[rM (Bc a b 0) 0,rM (Bc a b 0) 1,rM (Bc a b 0) 2,61]
 |a :: b :: c :: r=>rM (Bc a b c) 0 :: rM (Bc a b c) 1 :: rM (Bc a b c) 2 :: rM (Bc a b c) 3 :: uR r
def rk(l:aK):Nat->Nat
 |0=>0
 |k+1=>rk l k*256+(l.getD k 0).toNat
theorem CA(l:aK):∀k,rk l k<256^k
 |0=>by simp[rk]
 |k+1=>by
  have h:=CA l k;have h2:=(l.getD k 0).toNat_lt;rw[rk,Nat.pow_succ];omega
theorem abx(v x:Nat)(hv:v<4294967296)(hx:x<256):bits .or .i64 ((v:Int)*256) (x:Int)=((v*256+x:Nat):Int):=by
 have hm:((v:Int)*256)=((v*256:Nat):Int):=ab;rw[hm];have h1:(BitVec.ofInt 64 ((v*256:Nat):Int)).toNat=v*256:=by
  rw[BitVec.ofInt_natCast,BitVec.toNat_ofNat];exact Nat.mod_eq_of_lt ab
 have h2:(BitVec.ofInt 64 (x:Int)).toNat=x:=by
  rw[BitVec.ofInt_natCast,BitVec.toNat_ofNat];exact Nat.mod_eq_of_lt ab
 show IntKind.i64.wrap ((BitVec.ofInt 64 ((v*256:Nat):Int) ||| BitVec.ofInt 64 (x:Int)).toNat:Int)=_;have h3:v*256 ||| x=v*256+x:=by
  have h:=Nat.shiftLeft_add_eq_or_of_lt (show x<2^8 from hx) v;rw[Nat.shiftLeft_eq]at h;exact h.symm
 rw[BitVec.toNat_or,h1,h2,h3,IntWalk.i64_left];exact IntWalk.wrap64_in _ ab
theorem SI(r:ai)(k:Nat)(h:k<r.size):rk r.data.toList (k+1)=rk r.data.toList k*256+r[k].toNat:=by
 rw[rk,List.getD_eq_getElem?_getD,byte_at r k h];rfl
theorem Ph(r:ai)(k:Nat)(h:¬k<r.size):rk r.data.toList (k+1)=rk r.data.toList k*256:=by
 rw[rk,List.getD_eq_getElem?_getD,sU r k h];simp only[Option.getD_none];exact Nat.add_zero _
theorem Pj(r:ai):rk r.data.toList 3=Bc (r.data.toList.getD 0 0) (r.data.toList.getD 1 0) (r.data.toList.getD 2 0):=by
 show((0*256+_)*256+_)*256+_=_*65536+_*256+_;rw[gX,bw,dD,Nat.mul_assoc]
def ng(v n:Nat):aK:=[rM v 0,rM v 1,if 2<=n then rM v 2 else 61,if 3<=n then rM v 3 else 61]
def afp(w:World)(acc:aK)(v n:Nat)(i:Value)(wr:World):Prop :=
 ∃k:Nat,k<=4/\i=.int .i64 k/\EB w.heap.size w.heap.size (acc++(ng v n).take k) wr/\Fr aX w wr/\w.heap.size<=wr.heap.size
theorem yL:∀n (h:n<64),(⟨#[65,66,67,68,69,70,71,72,73,74,75,76,77,78,79,80,81,82,83,84,85,86,87,88,89,90,97,98,99,100,101,102,103,104,105,106,107,108,109,110,111,112,113,114,115,116,117,118,119,120,121,122,48,49,50,51,52,53,54,55,56,57,43,47]⟩:ai)[n]'h=abw n:=cZ
theorem N0(v i:Nat)(hv:v<16777216):∃m:Nat,m<64/\abw m=rM v i/\bits .and .i64 ((v/2^(18-6*i):Nat):Int) 63=(m:Int):=by
 refine⟨v/2^(18-6*i)%64,Nat.mod_lt _ ag,rfl,?_⟩;have hx:v/2^(18-6*i)<16777216:=gA (Nat.div_le_self _ _) hv;generalize v/2^(18-6*i)=x at hx;have h1:(BitVec.ofInt 64 (x:Int)).toNat=x:=by
  rw[BitVec.ofInt_natCast,BitVec.toNat_ofNat];exact Nat.mod_eq_of_lt ab
 have h2:(BitVec.ofInt 64 63).toNat=63:=ag;show IntKind.i64.wrap ((BitVec.ofInt 64 (x:Int) &&& BitVec.ofInt 64 63).toNat:Int)=_;rw[BitVec.toNat_and,h1,h2,Nat.and_two_pow_sub_one_eq_mod x 6,IntWalk.i64_left];exact IntWalk.wrap64_in _ ab
theorem Jk(r:ai)(n:Nat):(r.extract n r.size).data.toList=r.data.toList.drop n:=by
 rw[ByteArray.data_extract,Array.toList_extract];show(r.data.toList.drop n).take (r.data.toList.length-n)=_;rw[aG aS]
theorem Pk:∀(l:aK) (n:Nat),0<n->n<=3->n<=l.length->(n<3->n=l.length) ->
  uR l=ng (Bc (l.getD 0 0) (l.getD 1 0) (l.getD 2 0)) n++uR (l.drop n)
 |[],n,h0,_,hl,_=>by simp at hl;omega
 |[a],n,h0,_,hl,_=>by
  obtain rfl:n=1:=by simp at hl;omega
  rfl
 |[a,b],n,h0,_,hl,h=>by
  obtain rfl:n=2:=by simp at hl h;omega
  rfl
 |a :: b :: c :: t,n,h0,h3,hl,h=>by
  obtain rfl:n=3:=by simp at hl h;omega
  rfl
theorem Pm(r:ai)(v n:Nat)(NH:0<n)(hn3:n<=3)(hnr:n<=r.size)(hnk:n<3->n=r.size)(hv:v=Bc (r.data.toList.getD 0 0) (r.data.toList.getD 1 0) (r.data.toList.getD 2 0)) :
  uR r.data.toList=ng v n++uR (r.extract n r.size).data.toList:=by
 rw[Jk,hv];exact Pk _ n NH hn3 hnr hnk
theorem CB(r:ai)(n:Nat):(r.extract n r.size).size=r.size-n:=by
 have h:(r.extract n r.size).data.toList.length=(r.data.toList.drop n).length:=by rw[Jk]
 rw[bJ]at h;exact h
def afq(r:ai)(w0:World)(v i:Value)(wr:World):Prop :=
 ∃k:Nat,k<=3/\i=.int .i64 k/\v=.int .i64 (rk r.data.toList k)/\wr=w0
def aby(w:World)(s:ai)(v:Value)(wr:World):Prop :=
 ∃(r:ai) (acc:aK),r.size<=s.size/\v=.string r/\acc.length<=4*(s.size-r.size)/\uR s.data.toList=acc++uR r.data.toList/\EB w.heap.size w.heap.size acc wr/\Fr aX w wr/\w.heap.size<=wr.heap.size
def lenOf:Value->Nat
 | .string r=>r.size
 |_=>0
theorem LF(s:ai)(w:World)(hs:s.size<4398046511104) :
  aE 104 #[.string s] w fun e w'=>e=.returned (.string ⟨(uR s.data.toList).toArray⟩)/\Fr aX w w':=by
 go_enter func104,ntmps104;go_wp2;go_loopw[0] (aby w s) (fun v _=>lenOf v)
 case atStart=>exact⟨s,[],az _,rfl,aS,aS,EB.new w,(ae _ _).alloc _,aS⟩
 case round =>
  obtain⟨r,acc,hr,rfl,A',hun,hb,hf,hz⟩:=hrel;have HUN:=O hun;clear hun;by_cases hr0:0<r.size
  ·have Bd:(0:Int)<(r.size:Int):=ab;obtain⟨n,NH,hn3,hnr,hni,hnk⟩:∃n:Nat,0<n/\n<=3/\n<=r.size/\min (3:Int) (r.size:Int)=(n:Int)/\(n<3->n=r.size):=⟨min 3 r.size,ab,ab,ab,ab,ab⟩;go_wp2_with fail
   go_loopw[5,14] (afq r wr) (fun _ i _=>3-(intOf i).toNat)
   case atStart=>exact⟨0,ab,rfl,rfl,rfl⟩
   case round =>
    obtain⟨k,hk,rfl,rfl,rfl⟩:=hrel;by_cases Gb:k<3
    ·have qm:(k:Int)<3:=ab;have SJ:=CA r.data.toList k;have ak5:rk r.data.toList k<65536:=cN SJ (aH (Nat.pow_le_pow_right ab (show k<=2 from ab)) ag);have ars:¬(9223372036854775807:Int)<(rk r.data.toList k:Int)*256:=ab;by_cases Pn:k<n
     ·have ak6:(k:Int)<(n:Int):=ab;have ak7:k<r.size:=ab;have hkr:(k:Int)<(r.size:Int):=ab;have iQ:=O (SI r k ak7);have nZ:=r[k].toNat_lt;go_wp2_with fail
      refine⟨⟨k+1,ab,bh,?_,rfl⟩,by simp[intOf];omega⟩;rw[abx _ _ (Nat.lt_trans ak5 ag) nZ,iQ.o]
     ·have ak6:¬(k:Int)<(n:Int):=ab;have iQ:=O (Ph r k ab);go_wp2_with fail
      refine⟨⟨k+1,ab,bh,?_,rfl⟩,by simp[intOf];omega⟩;rw[iQ.o];rfl
    ·have qm:¬(k:Int)<3:=ab;have Xo:k=3:=ab;subst Xo;have SJ:=CA r.data.toList 3;have ZJ:=O (Pj r);generalize rk r.data.toList 3=v at SJ ZJ;go_wp2_with fail
     go_loopw[29] (afp w acc v n) (fun i _=>4-(intOf i).toNat)
     case atStart=>exact⟨0,ab,rfl,by simpa using hb,hf,hz⟩
     case round =>
      obtain⟨k,hk,rfl,sD,dw,kP⟩:=hrel;have oX:∀j,(acc++(ng v n).take j).length<=4*s.size+4:=by intro j;rw[aM,aQ];show _+min j 4<=_;omega
      match k,hk,sD with
      |0,_,sD =>
       obtain⟨m,hm,hl,CC⟩:=N0 v 0 SJ;rw[show(((v/2^(18-6*0):Nat):Int))=(v:Int)/262144 from ab]at CC;have Pn:(0:Int)<=(n:Int):=ab;have hq:(0:Int)<=(m:Int)/\(m:Int)<64:=ab;go_wp2_with fail
       rw[yL m hm,hl];refine(j9 _ _ _ (rM v 0) wr sD (by have:=oX 0;omega) kP).mono ?_;rintro e w2⟨rfl,jX,dF⟩;have kR:w.heap.size<=w2.heap.size:=aH kP dF.size;have qe:EB w.heap.size w.heap.size (acc++(ng v n).take (0+1)) w2:=by
        have e:(ng v n).take (0+1)=(ng v n).take 0++[(rM v 0)]:=by simp[ng, *]
        rw[e, <-cK];exact jX
       clear sD jX;go_wp2;go_roundw
       case rel=>exact⟨0+1,ab,bh,qe,dw.lG dF,kR⟩
       case measure=>simp[intOf]
      |1,_,sD =>
       obtain⟨m,hm,hl,CC⟩:=N0 v 1 SJ;rw[show(((v/2^(18-6*1):Nat):Int))=(v:Int)/4096 from ab]at CC;have Pn:(1:Int)<=(n:Int):=ab;have hq:(0:Int)<=(m:Int)/\(m:Int)<64:=ab;go_wp2_with fail
       rw[yL m hm,hl];refine(j9 _ _ _ (rM v 1) wr sD (by have:=oX 1;omega) kP).mono ?_;rintro e w2⟨rfl,jX,dF⟩;have kR:w.heap.size<=w2.heap.size:=aH kP dF.size;have qe:EB w.heap.size w.heap.size (acc++(ng v n).take (1+1)) w2:=by
        have e:(ng v n).take (1+1)=(ng v n).take 1++[(rM v 1)]:=by simp[ng, *]
        rw[e, <-cK];exact jX
       clear sD jX;go_wp2;go_roundw
       case rel=>exact⟨1+1,ab,bh,qe,dw.lG dF,kR⟩
       case measure=>simp[intOf]
      |2,_,sD =>
       obtain⟨m,hm,hl,CC⟩:=N0 v 2 SJ;rw[show(((v/2^(18-6*2):Nat):Int))=(v:Int)/64 from ab]at CC;by_cases ak8:2<=n
       ·have Pn:(2:Int)<=(n:Int):=ab;have hq:(0:Int)<=(m:Int)/\(m:Int)<64:=ab;go_wp2_with fail
        rw[yL m hm,hl];refine(j9 _ _ _ (rM v 2) wr sD (by have:=oX 2;omega) kP).mono ?_;rintro e w2⟨rfl,jX,dF⟩;have kR:w.heap.size<=w2.heap.size:=aH kP dF.size;have qe:EB w.heap.size w.heap.size (acc++(ng v n).take (2+1)) w2:=by
         have e:(ng v n).take (2+1)=(ng v n).take 2++[(rM v 2)]:=by simp[ng, *]
         rw[e, <-cK];exact jX
        clear sD jX;go_wp2;go_roundw
        case rel=>exact⟨2+1,ab,bh,qe,dw.lG dF,kR⟩
        case measure=>simp[intOf]
       ·have Pn:¬(2:Int)<=(n:Int):=ab;go_wp2_with fail
        refine(j9 _ _ _ 61 wr sD (by have:=oX 2;omega) kP).mono ?_;rintro e w2⟨rfl,jX,dF⟩;have kR:w.heap.size<=w2.heap.size:=aH kP dF.size;have qe:EB w.heap.size w.heap.size (acc++(ng v n).take (2+1)) w2:=by
         have e:(ng v n).take (2+1)=(ng v n).take 2++[61]:=by simp[ng, *]
         rw[e, <-cK];exact jX
        clear sD jX;go_wp2;go_roundw
        case rel=>exact⟨2+1,ab,bh,qe,dw.lG dF,kR⟩
        case measure=>simp[intOf]
      |3,_,sD =>
       obtain⟨m,hm,hl,CC⟩:=N0 v 3 SJ;rw[show(((v/2^(18-6*3):Nat):Int))=(v:Int)from ab]at CC;by_cases ak8:3<=n
       ·have Pn:(3:Int)<=(n:Int):=ab;have hq:(0:Int)<=(m:Int)/\(m:Int)<64:=ab;go_wp2_with fail
        rw[yL m hm,hl];refine(j9 _ _ _ (rM v 3) wr sD (by have:=oX 3;omega) kP).mono ?_;rintro e w2⟨rfl,jX,dF⟩;have kR:w.heap.size<=w2.heap.size:=aH kP dF.size;have qe:EB w.heap.size w.heap.size (acc++(ng v n).take (3+1)) w2:=by
         have e:(ng v n).take (3+1)=(ng v n).take 3++[(rM v 3)]:=by simp[ng, *]
         rw[e, <-cK];exact jX
        clear sD jX;go_wp2;go_roundw
        case rel=>exact⟨3+1,ab,bh,qe,dw.lG dF,kR⟩
        case measure=>simp[intOf]
       ·have Pn:¬(3:Int)<=(n:Int):=ab;go_wp2_with fail
        refine(j9 _ _ _ 61 wr sD (by have:=oX 3;omega) kP).mono ?_;rintro e w2⟨rfl,jX,dF⟩;have kR:w.heap.size<=w2.heap.size:=aH kP dF.size;have qe:EB w.heap.size w.heap.size (acc++(ng v n).take (3+1)) w2:=by
         have e:(ng v n).take (3+1)=(ng v n).take 3++[61]:=by simp[ng, *]
         rw[e, <-cK];exact jX
        clear sD jX;go_wp2;go_roundw
        case rel=>exact⟨3+1,ab,bh,qe,dw.lG dF,kR⟩
        case measure=>simp[intOf]
      |4,_,sD =>
       have art:(ng v n).take 4=ng v n:=rfl;have N1:=Pm r v n NH hn3 hnr hnk ZJ.o;go_wp2_with fail
       refine⟨⟨r.extract n r.size,acc++ng v n,?_,rfl,?_,?_,sD,dw,kP⟩,?_⟩
       ·rw[CB];omega
       ·rw[CB,aM];have hn4:(ng v n).length=4:=rfl;omega
       ·rw[HUN.o,N1,cK]
       ·show(r.extract n r.size).size<r.size;rw[CB];omega
  ·have Bd:¬(0:Int)<(r.size:Int):=ab;have fl:uR s.data.toList=acc:=by rw[HUN.o,show r.data.toList=[]from b_ (show r.size=0 from ab)];simp[uR]
   go_wp2_with fail
   refine(AB _ _ _ wr hb hz).mono ?_;rintro e w1⟨rfl,dw⟩;go_wp2;go_ret;rw[fl];exact⟨rfl,hf.lG dw⟩
