/- Lemmas for the law's walk. -/
import Derived.Test.YtnckmcnffadjoaaGreatDoorPk2
import Derived.Laws.AppendOwnNone
set_option maxRecDepth 100000
set_option maxHeartbeats 16000000
set_option linter.unusedSimpArgs false
namespace Go.Proofs.YtnckmcnffadjoaaGreatDoor
open Go.Proofs.Tryz
open Go.RowKit
variable {w w':World} {g k base:Nat} {p:UInt8->Bool} {x:UInt8} {R:Value->List aj->Prop} {S:dF} {v:Value} {ss:List aj}
def Qj(a b c d:UInt8):Int:=bits .or .u32 (bits .or .u32 (bits .or .u32 ((a.toNat:Int)%4294967296) ((b.toNat:Int)%4294967296*256%4294967296)) ((c.toNat:Int)%4294967296*65536%4294967296)) ((d.toNat:Int)%4294967296*16777216%4294967296)
def FI(l:aH)(i:Nat):UInt8:=l.getD i 0
def qY(dQ:Bool)(l:aH):Int:=if dQ then Qj (FI l 0) (FI l 1) (FI l 2) (FI l 3)else Qj (FI l 3) (FI l 2) (FI l 1) (FI l 0)
theorem th(s:aj)(i:Nat)(h:i<s.size):FI s.data.toList i=s[i]:=by
 unfold FI;rw[List.getD_eq_getElem?_getD,byte_at s i h];rfl
theorem Qk{a b:Int}(h:a=b):Ending.returned (.int .u32 a)=.returned (.int .u32 b):=by rw[h]
theorem wP(s:aj)(dQ:Bool)(w:World)(hs:4<=s.size)(Nf:s.size<17592186044416) :
  aB 239 #[.string s,.bool dQ] w fun e w'=>e=.returned (.int .u32 (qY dQ s.data.toList))/\∃n,w'=w.drewN n:=by
 have h0:0<s.size:=ab;have h1:1<s.size:=ab;have h2:2<s.size:=ab;have h3:3<s.size:=ab
 have HWF:=O (show qY false s.data.toList=bits .or .u32 (bits .or .u32 (bits .or .u32 ((s[3].toNat:Int)%4294967296) ((s[2].toNat:Int)%4294967296*256%4294967296)) ((s[1].toNat:Int)%4294967296*65536%4294967296)) ((s[0].toNat:Int)%4294967296*16777216%4294967296)by rw[<-th s 0 h0, <-th s 1 h1, <-th s 2 h2, <-th s 3 h3];unfold qY Qj;rw[aq ag])
 have HWT:=O (show qY true s.data.toList=bits .or .u32 (bits .or .u32 (bits .or .u32 ((s[0].toNat:Int)%4294967296) ((s[1].toNat:Int)%4294967296*256%4294967296)) ((s[2].toNat:Int)%4294967296*65536%4294967296)) ((s[3].toNat:Int)%4294967296*16777216%4294967296)by rw[<-th s 0 h0, <-th s 1 h1, <-th s 2 h2, <-th s 3 h3];unfold qY Qj;rw[az rfl]);cases dQ
 ·go_enter func239,ntmps239;go_wp2;have i0:(0:Int)<(s.size:Int):=ab;have i1:(1:Int)<(s.size:Int):=ab;have i2:(2:Int)<(s.size:Int):=ab;have i3:(3:Int)<(s.size:Int):=ab;go_quiet (fail);go_wp2;go_ret;exact⟨Qk HWF.o.symm,_,rfl⟩
 ·go_enter func239,ntmps239;go_wp2;have i0:(0:Int)<(s.size:Int):=ab;have i1:(1:Int)<(s.size:Int):=ab;have i2:(2:Int)<(s.size:Int):=ab;have i3:(3:Int)<(s.size:Int):=ab;go_quiet (fail);go_wp2;go_ret;exact⟨Qk HWT.o.symm,_,rfl⟩
def mq(x:Int)(n:Nat):Int:=bits .or .u32 (x*2^n%4294967296) (x/2^(32-n))
theorem C5(x k:Int)(n:Nat)(w:World)(hk:0<=k)(sH:k<32)(hb:bits .and .u64 k 31=(n:Int))(hn:n<32) :
  aB 240 #[.int .u32 x,.int .i64 k] w fun e w'=>e=.returned (.int .u32 (mq x n))/\w=w':=by
 go_enter func240,ntmps240;go_wp2;go_ret;exact⟨rfl,rfl⟩
theorem ZE(x k:Int)(n:Nat)(w:World)(hk: -32<k)(sH:k<0)(hb:bits .and .u64 (k+18446744073709551616) 31=(n:Int))(hn:n<32) :
  aB 240 #[.int .u32 x,.int .i64 k] w fun e w'=>e=.returned (.int .u32 (mq x n))/\w=w':=by
 have hw:IntKind.u64.wrap k=k+18446744073709551616:=by
  have e:IntKind.u64.wrap k=k%18446744073709551616:=by simp[IntKind.wrap,IntKind.signed,IntKind.bits]
  rw[e];omega
 go_enter func240,ntmps240;go_wp2;go_ret;exact⟨rfl,rfl⟩
def uQ(dQ:Bool)(n i:Nat):UInt8:=if dQ then(n/2^(8*i)%256).toUInt8 else(n/2^(56-8*i)%256).toUInt8
def yG(dQ:Bool)(n:Nat):aH:=(List.range 8).map (uQ dQ n)
def vO(dQ:Bool)(l:aH):aH:=l++[128]++List.replicate ((55-(l.length:Int)%64+64)%64).toNat 0++yG dQ (l.length*8)
theorem ahU(w:World):(Instr.makeSlice 177 (.int .i64 8) (.int .i64 8)).run prog w=.ok (.slice (some ⟨w.heap.size,0,none⟩) 8 8) (w.alloc (.cells (uC (List.replicate 8 0)).toArray 5)):=by
 obtain⟨i0,hi,pD,ll,lF⟩:=info_parts PN;have h:=run_makeSlice w 177 5 i0 (.int .u8 0) underlying177 hi pD .i64 .i64 8 8 ag ag (by rw[ll];decide) (by rw[lF];decide) ag;rw[ll]at h;have e:madeCells (Value.int .u8 0).cells (Int.toNat 8*1)=(uC (List.replicate 8 0)).toArray:=af;rw[e]at h;exact h
def yH(w:World)(g:Nat)(l:aH):Prop:=w.heap[g]?=some (.cells (uC l).toArray 5 (0,0))
theorem yH.cell{l:aH}(h:yH w g l){j:Nat}{c:UInt8}(hj:l[j]?=some c):w.cell? ⟨g,j,none⟩=some (.int .u8 (c.toNat:Int)):=by
 obtain⟨hl,he⟩:=List.getElem?_eq_some_iff.1 hj;unfold yH at h;simp only[World.cell?,h];simp[uC,hl,he]
theorem yH.free{l:aH}(h:yH w g l)(j:Nat):w.frozen? ⟨g,j,none⟩=false:=by
 unfold yH at h;simp[World.frozen?,h]
theorem yH.set{l:aH}(h:yH w g l)(j:Nat)(c:UInt8):yH (w.setCell ⟨g,j,none⟩ (.int .u8 (c.toNat:Int))) g (l.set j c):=by
 unfold yH at h ⊢;simp only[World.setCell,Array.getElem?_modify,h];simp[uC,List.map_set]
theorem yH.text{l:aH}(h:yH w g l)(n c:Nat)(hn:n=l.length) :
  (convert 177 9 (.slice (some ⟨g,0,none⟩) n c)).run prog w=.ok (.string ⟨l.toArray⟩) w:=by
 subst hn;refine run_convert_bytes_back (P:=prog) w 177 9 5 ⟨g,0,none⟩ c l underlying177 underlying5 underlying9 ?_;intro j hj;have ea:(Addr.add ⟨g,0,none⟩ j)=⟨g,j,none⟩:=by unfold Addr.add;split<;>simp_all
 rw[ea];exact h.cell (List.getElem?_eq_getElem hj)
theorem nG(dQ:Bool)(n:Nat):(yG dQ n).length=8:=by simp[yG]
def uj(dQ:Bool)(n k:Nat):aH:=(yG dQ n).take k++List.replicate (8-k) 0
theorem DS(dQ:Bool)(n k:Nat)(hk:k<8):uj dQ n (k+1)=(uj dQ n k).set k (uQ dQ n k):=by
 have hg:(yG dQ n)[k]?=some (uQ dQ n k):=by simp[yG,hk]
 unfold uj;rw[cj,hg];have e:List.replicate (8-k) (0:UInt8)=0 :: List.replicate (8-(k+1)) 0:=by
  rw[show 8-k=(8-(k+1))+1 from ab,List.replicate_succ]
 rw[e,List.set_append,aq (by rw[aJ,nG];omega)];rw[show k-((yG dQ n).take k).length=0 from by rw[aJ,nG];omega];simp
theorem GF(dQ:Bool)(n:Nat):uj dQ n 8=yG dQ n:=by
 unfold uj;rw[aD (by rw[nG];omega)];simp
theorem DT:∀(k:Nat),(Lib.repeatL [0] k).length=k
 |0=>rfl
 |k+1=>by
  show(([0]:aH)++Lib.repeatL [0] k).length=k+1;rw[aK,DT k];simp;omega
theorem GG:∀(k:Nat),Lib.repeatL [0] k=List.replicate k (0:UInt8)
 |0=>rfl
 |k+1=>by
  show([0]:aH)++Lib.repeatL [0] k=_;rw[GG k,List.replicate_succ];rfl
theorem GH(n e:Nat):(((n/2^e%256).toUInt8.toNat:Nat):Int)=(n:Int)/2^e%256:=by
 rw[show(n/2^e%256).toUInt8.toNat=n/2^e%256 from by simp[Nat.toUInt8]];rw[Int.natCast_emod,Int.natCast_ediv,Int.natCast_pow];rfl
def U2(dQ:Bool)(n g:Nat)(w:World)(i:Value)(wr:World):Prop:=∃k:Nat,k<=8/\i=.int .i64 k/\yH wr g (uj dQ n k)/\Fr aS w wr
theorem Ql(s:aj)(dQ:Bool)(w:World)(hs:s.size<17592186044416) :
  aB 238 #[.string s,.bool dQ] w fun e w'=>e=.returned (.string ⟨(vO dQ s.data.toList).toArray⟩)/\Fr aS w w':=by
 obtain⟨q,hq⟩:∃q:Nat,(55-(s.size:Int))%64=(q:Int):=⟨((55-(s.size:Int))%64).toNat,ab⟩;have au3:q<64:=ab;have ahV:=O (show vO dQ s.data.toList=s.data.toList++[128]++Lib.repeatL [0] q++yG dQ (s.size*8)by
  unfold vO;rw[GG,show s.data.toList.length=s.size from aR,show((55-(s.size:Int)%64+64)%64).toNat=q from ab])
 have vN:=DT q;have P6:=fun W=>ahU W;go_enter func238,ntmps238;go_wp2_with fail
 refine(strings_Repeat ⟨#[0]⟩ q w ab (by show 1*q<=_;omega)).mono ?_;rintro e w1⟨rfl,qw⟩;have ZF:¬9223372036854775807<s.size+1+(Lib.repeatL [0] q).length:=ab;have dk:=fx qw;have HL:=O vN;clear vN qw;have ab_:yH (w1.alloc (.cells (uC (List.replicate 8 0)).toArray 5)) w1.heap.size (uj dQ (s.size*8) 0):=by
  unfold yH;rw[aC];rfl
 have HR0:=O ab_;have Cy:=dk.size;clear ab_;cases dQ
 ·go_wp2;clear P6;go_loopw[26] (U2 false (s.size*8) w1.heap.size w) (fun i _=>8-(intOf i).toNat)
  case atStart=>exact⟨0,ab,rfl,HR0.o,dk.alloc _⟩
  case round =>
   obtain⟨k,hk,rfl,ml,cP⟩:=hrel;by_cases fe:k<8
   ·have hlen:(uj false (s.size*8) k).length=8:=by unfold uj;rw[aK,aJ,nG,fu];omega
    have hc:=ml.cell (List.getElem?_eq_getElem (show k<(uj false (s.size*8) k).length from ab));have hf:=ml.free k;have pE:(k:Int)<8:=ab;have re:=O (ml.set k (uQ false (s.size*8) k));have hsc:=O (DS false (s.size*8) k fe);have YS:=O (show((uQ false (s.size*8) k).toNat:Int)=(s.size:Int)*8/2^(56-8*k)%256 from(GH (s.size*8) (56-8*k)).trans (by rw[Int.natCast_mul];rfl));go_wp2;go_roundw
    case rel=>exact⟨k+1,ab,bg,by rw[hsc.o];have h:=re.o;rw[YS.o]at h;exact h,cP.gN (p:=⟨w1.heap.size,k,none⟩) Cy _⟩
    case measure=>simp[intOf];omega
   ·have hk8:k=8:=ab;subst hk8;rw[GF]at ml;have BR:=ml.text 8 8 (by rw[nG]);have Nj:(yG false (s.size*8)).length=8:=nG _ _;have ahW:¬9223372036854775807<s.size+1+(Lib.repeatL [0] q).length+(yG false (s.size*8)).length:=by have:=HL.o;omega
    have fl:=O (show(s++⟨#[128]⟩++⟨(Lib.repeatL [0] q).toArray⟩++⟨(yG false (s.size*8)).toArray⟩:aj)=⟨(vO false s.data.toList).toArray⟩from by
     apply Go.WideShapes.bytes_inj;rw[ahV.o];simp[gS])
    go_wp2;go_ret;exact⟨by rw[<-fl.o];rfl,cP⟩
 ·go_wp2;clear P6;go_loopw[26] (U2 true (s.size*8) w1.heap.size w) (fun i _=>8-(intOf i).toNat)
  case atStart=>exact⟨0,ab,rfl,HR0.o,dk.alloc _⟩
  case round =>
   obtain⟨k,hk,rfl,ml,cP⟩:=hrel;by_cases fe:k<8
   ·have hlen:(uj true (s.size*8) k).length=8:=by unfold uj;rw[aK,aJ,nG,fu];omega
    have hc:=ml.cell (List.getElem?_eq_getElem (show k<(uj true (s.size*8) k).length from ab));have hf:=ml.free k;have pE:(k:Int)<8:=ab;have re:=O (ml.set k (uQ true (s.size*8) k));have hsc:=O (DS true (s.size*8) k fe);have YS:=O (show((uQ true (s.size*8) k).toNat:Int)=(s.size:Int)*8/2^(8*k)%256 from(GH (s.size*8) (8*k)).trans (by rw[Int.natCast_mul];rfl));go_wp2;go_roundw
    case rel=>exact⟨k+1,ab,bg,by rw[hsc.o];have h:=re.o;rw[YS.o]at h;exact h,cP.gN (p:=⟨w1.heap.size,k,none⟩) Cy _⟩
    case measure=>simp[intOf];omega
   ·have hk8:k=8:=ab;subst hk8;rw[GF]at ml;have BR:=ml.text 8 8 (by rw[nG]);have Nj:(yG true (s.size*8)).length=8:=nG _ _;have ahW:¬9223372036854775807<s.size+1+(Lib.repeatL [0] q).length+(yG true (s.size*8)).length:=by have:=HL.o;omega
    have fl:=O (show(s++⟨#[128]⟩++⟨(Lib.repeatL [0] q).toArray⟩++⟨(yG true (s.size*8)).toArray⟩:aj)=⟨(vO true s.data.toList).toArray⟩from by
     apply Go.WideShapes.bytes_inj;rw[ahV.o];simp[gS])
    go_wp2;go_ret;exact⟨by rw[<-fl.o];rfl,cP⟩
def Bc(l:aH):Bool:=l.all gq&&!l.isEmpty
theorem xU{l:aH}(h:l[k]?=some x):(l.take (k+1)).all p=((l.take k).all p&&p x):=by
 rw[cj,h];simp
theorem zu{l:aH}(h:l[k]?=some x)(hp:p x=false):l.all p=false:=by
 rw[jt];exact⟨x,bQ h,by simp[hp]⟩
theorem Di(s:aj)(w:World)(hs:s.size<17592186044416) :
  aB 91 #[.string s] w fun e w'=>e=.returned (.bool (Bc s.data.toList))/\w=w':=by
 go_enter func91,ntmps91;go_wp2
 go_loop [6] (fun i=>∃k:Nat,k<=s.size/\i=.int .i64 k/\(s.data.toList.take k).all gq=true) (fun i=>s.size-(intOf i).toNat)
 case atStart=>exact⟨0,aL _,rfl,aR⟩
 case round =>
  obtain⟨k,hk,rfl,iI⟩:=hrel;have yq:=O iI;clear iI;by_cases fe:k<s.size
  ·have dS:=O (byte_at s k fe);generalize hx:s[k]=x at dS;cases e1:gq x
   ·have fl:=O (show Bc s.data.toList=false by unfold Bc;rw[zu dS.o e1];rfl);go_wp2_with (go_at_call 152;refine(zq _ _).mono ?_;rintro e w' ⟨rfl,rfl⟩)
    go_ret;rw[fl.o];exact⟨rfl,rfl⟩
   ·have qt:=O (show(s.data.toList.take (k+1)).all gq=true by rw[xU dS.o,yq.o,e1];rfl);go_wp2_with (go_at_call 152;refine(zq _ _).mono ?_;rintro e w' ⟨rfl,rfl⟩)
    go_round
    case rel=>exact⟨k+1,ab,bg,qt.o⟩
    case measure=>simp[intOf];omega
  ·have PW:=O (show s.data.toList.all gq=true by have h:=yq.o;rw[aD bH]at h;exact h);go_wp2;go_ret;refine⟨fF ?_,rfl⟩;unfold Bc;rw[PW.o,aP];simp
def tJ(l:aH):aH:=l.flatMap (fun c=>if c==34||c==92 then [92,c]else [c])
def fX(l:aH):aH:=34 :: (tJ l++[34])
theorem PX(l:aH):(tJ l).length<=2*l.length:=by
 induction l with
 |nil=>simp[tJ]
 |cons c l ih=>simp[tJ]at ih ⊢; split<;>simp<;>omega
theorem Q_{l:aH}(h:l[k]?=some x):tJ (l.take (k+1))=tJ (l.take k)++(if x==34||x==92 then [92,x]else [x]):=by
 rw[cj,h];simp[tJ]
def oo(l:aH):Bool:=l.all nE
def Q'(s:aj)(w:World)(e:Ending)(w':World):Prop :=
 e=.returned (.tuple (if oo s.data.toList then #[.string ⟨(fX s.data.toList).toArray⟩,.nilIface]else #[.string ⟨#[]⟩,.iface 105 (.int .i64 3)]))/\Fr aS w w'
def ahv(s:aj)(w:World)(v i:Value)(wr:World):Prop :=
 ∃k:Nat,k<=s.size/\i=.int .i64 k/\Bytes w.heap.size wr v (34 :: tJ (s.data.toList.take k))/\Fr aS w wr/\(s.data.toList.take k).all nE=true
theorem Gc(s:aj)(w:World)(hs:s.size<17592186044416) :
  aB 100 #[.string s] w (Q' s w):=by
 go_enter func100,ntmps100;go_wp2;go_loopw[4,9] (ahv s w) (fun _ i _=>s.size-(intOf i).toNat)
 case atStart =>
  exact⟨0,aL _,rfl,Bytes.ang w 34,(ae _ _).alloc _,aR⟩
 case round =>
  obtain⟨k,hk,rfl,cW,cP,iI⟩:=hrel;have yq:=O iI;clear iI;have iL:w.heap.size<=wr.heap.size:=cP.size;have Y_:=O (show(tJ (s.data.toList.take k)).length<=2*k from aE (PX _) (Nat.mul_le_mul_left 2 bH));obtain⟨av,cv,hv⟩:=cW.form;subst hv;by_cases fe:k<s.size
  ·have dS:=O (byte_at s k fe);generalize hx:s[k]=x at dS;cases e1:nE x
   ·have fl:=O (show oo s.data.toList=false from zu dS.o e1);go_wp2_with (go_at_call 158;refine(qo _ _).mono ?_;rintro e w' ⟨rfl,rfl⟩)
    go_ret2;refine⟨?_,cP⟩;rw[fl.o];rfl
   ·have qt:=O (show(s.data.toList.take (k+1)).all nE=true by rw[xU dS.o,yq.o,e1];rfl);have Gd:=O (Q_ dS.o);cases e2:x==34
    ·cases e3:x==92
     ·have n1:((x.toNat:Int)==34)=false:=by rw[<-e2];exact vA 34 ag
      have n2:((x.toNat:Int)==92)=false:=by rw[<-e3];exact vA 92 ag
      have Uq:=O (show tJ (s.data.toList.take (k+1))=tJ (s.data.toList.take k)++[x]by rw[Gd.o,e2,e3];rfl);clear e2 e3
      go_wp2_with (first|(at_builtin;refine ku (o:=⟨some 36,_,_,_,_,_⟩) rfl _ _ rfl w.heap.size (.slice av _ cv) (34 :: tJ (s.data.toList.take k)) rfl (by apply gL;exact cW) ⟨wr.heap.size,0,none⟩ 1 x rfl (jC _ _ _ _) (by have:=Y_.o;simp;omega) bH ?_;intro v' w2 fG xT)|(go_at_call 158;refine(qo _ _).mono ?_;rintro e w' ⟨rfl,rfl⟩))
      go_roundw
      case rel=>exact⟨k+1,ab,bg,by rw[Uq.o];exact fG,(cP.alloc _).fW xT cW.block,qt.o⟩
      case measure=>simp[intOf];omega
     ·have n1:((x.toNat:Int)==34)=false:=by rw[<-e2];exact vA 34 ag
      have n2:((x.toNat:Int)==92)=true:=by rw[<-e3];exact vA 92 ag
      have Uq:=O (show tJ (s.data.toList.take (k+1))=tJ (s.data.toList.take k)++[92,x]by rw[Gd.o];simp only[e2,e3,kA,eo]);clear e2 e3
      go_wp2_with (first|(at_builtin;refine ku (o:=⟨some 30,_,_,_,_,_⟩) rfl _ _ rfl w.heap.size (.slice av _ cv) (34 :: tJ (s.data.toList.take k)) rfl (by apply gL;exact cW) ⟨wr.heap.size,0,none⟩ 1 92 rfl (jC _ _ _ _) (by have:=Y_.o;simp;omega) bH ?_;intro v1 w1 rK Ge;have qw:wr.heap.size+1<=w1.heap.size:=by simpa using Ge.size)|(at_builtin;refine ku (o:=⟨some 36,_,_,_,_,_⟩) rfl _ _ rfl w.heap.size v1 (34 :: tJ (s.data.toList.take k)++[92]) rfl (by apply gL;exact rK) ⟨w1.heap.size,0,none⟩ 1 x rfl (jC _ _ _ _) (by have:=Y_.o;simp;omega) bH ?_;intro v' w2 fG xT)|(go_at_call 158;refine(qo _ _).mono ?_;rintro e w' ⟨rfl,rfl⟩))
      go_roundw
      case rel=>exact⟨k+1,ab,bg,by rw[Uq.o];simpa using fG,((((cP.alloc _).fW Ge cW.block).alloc _).fW xT rK.block),qt.o⟩
      case measure=>simp[intOf];omega
    ·have n1:((x.toNat:Int)==34)=true:=by rw[<-e2];exact vA 34 ag
     have Uq:=O (show tJ (s.data.toList.take (k+1))=tJ (s.data.toList.take k)++[92,x]by rw[Gd.o];simp only[e2,Bool.true_or,eo]);clear e2
     go_wp2_with (first|(at_builtin;refine ku (o:=⟨some 30,_,_,_,_,_⟩) rfl _ _ rfl w.heap.size (.slice av _ cv) (34 :: tJ (s.data.toList.take k)) rfl (by apply gL;exact cW) ⟨wr.heap.size,0,none⟩ 1 92 rfl (jC _ _ _ _) (by have:=Y_.o;simp;omega) bH ?_;intro v1 w1 rK Ge;have qw:wr.heap.size+1<=w1.heap.size:=by simpa using Ge.size)|(at_builtin;refine ku (o:=⟨some 36,_,_,_,_,_⟩) rfl _ _ rfl w.heap.size v1 (34 :: tJ (s.data.toList.take k)++[92]) rfl (by apply gL;exact rK) ⟨w1.heap.size,0,none⟩ 1 x rfl (jC _ _ _ _) (by have:=Y_.o;simp;omega) bH ?_;intro v' w2 fG xT)|(go_at_call 158;refine(qo _ _).mono ?_;rintro e w' ⟨rfl,rfl⟩))
     go_roundw
     case rel=>exact⟨k+1,ab,bg,by rw[Uq.o];simpa using fG,((((cP.alloc _).fW Ge cW.block).alloc _).fW xT rK.block),qt.o⟩
     case measure=>simp[intOf];omega
  ·have PW:=O (show s.data.toList.take k=s.data.toList from aD bH)
   go_wp2_with (at_builtin;refine ku (o:=⟨some 40,_,_,_,_,_⟩) rfl _ _ rfl w.heap.size (.slice av _ cv) (34 :: tJ (s.data.toList.take k)) rfl (by apply gL;exact cW) ⟨wr.heap.size,0,none⟩ 1 34 rfl (jC _ _ _ _) (by have:=Y_.o;simp;omega) bH ?_;intro v1 w1 rK Ge;obtain⟨a1,c1,FC⟩:=rK.form;subst FC;have ht1:=rK.text;simp only[aK,List.length_cons,List.length_nil,bz]at ht1)
   go_ret2;refine⟨?_,(cP.alloc _).fW Ge cW.block⟩;have ahw:oo s.data.toList=true:=by rw[<-PW.o];exact yq.o
   rw[az ahw,PW.o];rfl
abbrev bE:=List aj
structure gG where
 aG:Bool
 host:aj
 port:Int
def gG.cells(o:gG):aZ:=[.bool o.aG,.string o.host,.int .i64 o.port]
structure fQ (D:Type) where
 scheme:Int
 aM:aj
 bu:aj
 cz:aj
 cD:Bool
 eJ:aj
 cR:Bool
 dom:D
def fQ.cells(a:fQ Value):aZ:=[.int .i64 a.scheme,.string a.aM,.string a.bu,.string a.cz,.bool a.cD,.string a.eJ,.bool a.cR,a.dom]
structure aQ (D:Type) where
 o:gG
 proxy:Bool
 user:aj
 pass:aj
 a:fQ D
 count:Int
 paths:D
def aQ.cells(g:aQ Value):aZ :=
 [.bool g.o.aG,.string g.o.host,.int .i64 g.o.port,.bool g.proxy,.string g.user,.string g.pass,
  .int .i64 g.a.scheme,.string g.a.aM,.string g.a.bu,.string g.a.cz,.bool g.a.cD,.string g.a.eJ,.bool g.a.cR,g.a.dom,.int .i64 g.count,g.paths]
def fQ.Reads(R:Value->List aj->Prop)(r:fQ Value)(a:fQ (List aj)):Prop :=
 r.scheme=a.scheme/\r.aM=a.aM/\r.bu=a.bu/\r.cz=a.cz/\r.cD=a.cD/\r.eJ=a.eJ/\r.cR=a.cR/\R r.dom a.dom
def aQ.Reads(R:Value->List aj->Prop)(r:aQ Value)(g:aQ (List aj)):Prop :=
 r.o=g.o/\r.proxy=g.proxy/\r.user=g.user/\r.pass=g.pass/\r.a.Reads R g.a/\r.count=g.count/\R r.paths g.paths
theorem fQ.Reads.mono{S:Value->List aj->Prop}{r:fQ Value}{a:fQ (List aj)}(h:r.Reads R a)(hs:∀v l,R v l->S v l):r.Reads S a :=
 ⟨h.1,h.2.1,h.2.2.1,h.2.2.2.1,h.2.2.2.2.1,h.2.2.2.2.2.1,h.2.2.2.2.2.2.1,hs _ _ h.2.2.2.2.2.2.2⟩
theorem aQ.Reads.mono{S:Value->List aj->Prop}{r:aQ Value}{g:aQ (List aj)}(h:r.Reads R g)(hs:∀v l,R v l->S v l):r.Reads S g :=
 ⟨h.1,h.2.1,h.2.2.1,h.2.2.2.1,h.2.2.2.2.1.mono hs,h.2.2.2.2.2.1,hs _ _ h.2.2.2.2.2.2⟩
def gG.lz(a b:gG):Bool:=a.aG==b.aG&&(a.host.toList==b.host.toList&&a.port==b.port)
theorem toList_inj{a b:aj}:a.toList=b.toList↔a=b:=by
 constructor
 ·intro h;rw[Go.ByteArray.toList_eq,Go.ByteArray.toList_eq]at h;exact Go.WideShapes.bytes_inj h
 ·intro h;rw[h]
theorem gG.xp(a b:gG):a.lz b=true↔a=b:=by
 obtain⟨s,h,p⟩:=a;obtain⟨s',h',p'⟩:=b;simp only[gG.lz,cy,dX,gG.mk.injEq,toList_inj]
theorem jG(a b:gG)(w:World):(binOp .eql 32 (.agg #[.bool a.aG,.string a.host,.int .i64 a.port]) (.agg #[.bool b.aG,.string b.host,.int .i64 b.port])).run prog w=.ok (.bool (a.lz b)) w:=by
 go_simp;by_cases h1:a.aG=b.aG<;>by_cases h2:a.host.toList=b.host.toList<;>by_cases h3:a.port=b.port<;>simp[gG.lz,h1,h2,h3]
theorem B6(a b:gG)(w:World):(binOp .neq 32 (.agg #[.bool a.aG,.string a.host,.int .i64 a.port]) (.agg #[.bool b.aG,.string b.host,.int .i64 b.port])).run prog w=.ok (.bool (!a.lz b)) w:=by
 go_simp;by_cases h1:a.aG=b.aG<;>by_cases h2:a.host.toList=b.host.toList<;>by_cases h3:a.port=b.port<;>simp[gG.lz,h1,h2,h3]
def cB(x:aZ)(i:Nat):Bool:=match x[i]? with|some (.bool b)=>b|_=>false
def cS(x:aZ)(i:Nat):aj:=match x[i]? with|some (.string s)=>s|_=>ByteArray.empty
def cI(x:aZ)(i:Nat):Int:=match x[i]? with|some (.int _ n)=>n|_=>0
def ahA(x:aZ):gG:=⟨cB x 0,cS x 1,cI x 2⟩
theorem Iw:∀(l:aH) (c:UInt8),¬0<=Lib.indexByte l c↔ ∀x∈l,x≠c
 |[],c=>by simp[Lib.indexByte]
 |x :: l,c=>by
  have ih:=Iw l c;have hge:=Lib.indexByte_ge l c;show¬0<=(if x==c then(0:Int)else if Lib.indexByte l c== -1 then -1 else Lib.indexByte l c+1)↔_;by_cases hx:x=c
  ·subst hx;simp
  ·rw[aq (by simpa using hx)];by_cases h1:Lib.indexByte l c= -1
   ·rw[az (by simpa using h1)];constructor
    ·intro _ y hy;rcases bC.1 hy with rfl|hy
     ·exact hx
     ·exact ih.1 (by rw[h1];decide) y hy
    ·intro _;decide
   ·rw[aq (by simpa using h1)];constructor
    ·intro h;omega
    ·intro h;have:=ih.2 (fun y hy=>h y (bN _ hy));omega
theorem KK(s:aj)(c:UInt8)(i:Nat)(w:World)(hs:s.size<4398046511104)(hi:Lib.indexByte s.data.toList c=(i:Int))(hl:i<s.size) :
  aB 127 #[.string s,.string ⟨#[c]⟩] w fun e w'=>e=.returned (.tuple #[.string (s.extract 0 i),.string (s.extract (i+1) s.size),.bool true])/\∃n,w'=w.drewN n:=by
 have Yi:aB 186 #[.string s,.string ⟨#[c]⟩] w fun e w'=>e=.returned (.tuple #[.string (s.extract 0 i),.string (s.extract (i+1) s.size),.bool true])/\∃n,w'=w.drewN n:=by
  have q0:(0:Int)<=(i:Int):=ab;have q1:(i:Int)<=(s.size:Int):=ab;have q2:(i:Int)+1<=(s.size:Int):=ab;have q3:(0:Int)<=(i:Int)+1:=ab;go_enter func186,ntmps186;go_wp2_with fail
  refine(stringslite_Index_one s c w).mono ?_;rintro e w1⟨rfl,rfl⟩;rw[hi];go_wp2;go_quiet (fail);go_wp2
  go_ret3
  exact⟨rfl,_,rfl⟩
 go_enter func127,ntmps127;go_wp2_with fail
 refine Yi.mono ?_;rintro e w1⟨rfl,n,rfl⟩;go_wp2
 go_ret3
 exact⟨rfl,n,rfl⟩
theorem Gn(s:aj)(c:UInt8)(w:World)(hi:¬0<=Lib.indexByte s.data.toList c) :
  aB 127 #[.string s,.string ⟨#[c]⟩] w fun e w'=>e=.returned (.tuple #[.string s,.string ⟨#[]⟩,.bool false])/\w'=w:=by
 have Yi:aB 186 #[.string s,.string ⟨#[c]⟩] w fun e w'=>e=.returned (.tuple #[.string s,.string ⟨#[]⟩,.bool false])/\w'=w:=by
  go_enter func186,ntmps186;go_wp2_with fail
  refine(stringslite_Index_one s c w).mono ?_;rintro e w1⟨rfl,rfl⟩;go_wp2
  go_ret3
  exact⟨rfl,rfl⟩
 go_enter func127,ntmps127;go_wp2_with fail
 refine Yi.mono ?_;rintro e w1⟨rfl,rfl⟩;go_wp2
 go_ret3
 exact⟨rfl,rfl⟩
open Go.RowKit Go.Sort
def uM(ls:List (aH)):List (aH):=ls.mergeSort fun x y=>decide (x<=y)
theorem UD(base:Nat)(v:Value)(ls:List (aH))(w:World)(h:w.ownsRow base 9 1 v ls.length (ls.map encStr))(hl:ls.length<1000000) :
  aB 182 #[v] w fun e w'=>e=.returned (.tuple #[])/\w'.ownsRow base 9 1 v ls.length ((uM ls).map encStr)/\w.grownBy w' v.ownBlock:=by
 rcases h.2 with ⟨rfl,h0⟩|⟨g,cap,cur,rfl,iL,hb,h1,h2,h3,h4⟩
 ·obtain rfl:ls=[]:=dK.1 h0;refine(slices_Sort_string_none none 0 w).mono ?_;rintro e w'⟨rfl,rfl⟩;exact⟨rfl,by rw[show uM []=[]by simp[uM]];exact h,⟨rfl,rfl,rfl,ay _,fun _ _ _=>rfl⟩⟩
 ·refine(slices_Sort_string g 0 cap ls w (holds_of_block hb (by simpa using h4)) (bq hb) ab).mono ?_;rintro e w'⟨rfl,n,os,rfl⟩;exact⟨rfl,ownsRow_sorted aR iL hb h1 h2 h3,grownBy_sorted _⟩
theorem KM(base:Nat)(v:Value)(ls:List (aH))(w:World)(h:w.ownsRow base 9 1 v ls.length (ls.map encStr))(hl:ls.length<1000000) :
  aB 183 #[v] w fun e w'=>∃u,e=.returned u/\w'.ownsRow base 9 1 u (Lib.compact ls).length ((Lib.compact ls).map encStr)/\w.grownBy w' v.ownBlock:=by
 rcases h.2 with ⟨rfl,h0⟩|⟨g,cap,cur,rfl,iL,hb,h1,h2,h3,h4⟩
 ·obtain rfl:ls=[]:=dK.1 h0;refine(slices_Compact_string_empty none 0 w).mono ?_;rintro e w'⟨rfl,rfl⟩;exact⟨_,rfl,h,⟨rfl,rfl,rfl,ay _,fun _ _ _=>rfl⟩⟩
 ·refine(slices_Compact_string g 0 cap ls w (holds_of_block hb (by simpa using h4)) ab h1).mono ?_;have hle:=Lib.compact_length_le ls;obtain⟨ts,hts⟩:∃ts:List (aH),ts=Lib.compact ls++List.replicate (ls.length-(Lib.compact ls).length) []:=⟨_,rfl⟩;have hlen:ts.length=ls.length:=by rw[hts,aK,fu];omega
  rw[<-hts];rintro e w'⟨rfl,q,rfl⟩;have hw:=heap_sorted (n:=q) (os:= #[]) ts.toArray hb;have hg:=grownBy_sorted (w:=w) (g:=g) (n:=q) (os:= #[]) ts.toArray;rw[grow_empty]at hw hg;have tk:=take_putCells cur ts ab;refine⟨_,rfl,⟨aR,.inr ⟨g,cap,_,rfl,iL,hw,ab,h2,by simp[putCells,h3],?_⟩⟩,hg⟩
  have e1:(putCells encStr 0 ts.toArray cur).toList.take (Lib.compact ls).length=((putCells encStr 0 ts.toArray cur).toList.take ts.length).take (Lib.compact ls).length:=by
   rw[kH,dP ab]
  rw[Nat.mul_one,e1,tk,hts,bI,List.take_left' aR]
def Sep(w:World)(v v':Value):Prop:=v'.ownBlock=v.ownBlock\/∀k,v'.ownBlock=some k->w.heap.size<=k
theorem Dv{P:Program}(w:World)(base:Nat)(t ty e:TypeId)(i:TypeInfo)(z:Value)(size bytes:Nat)(ht:P.underlying t=some (.slice e))(hi:P.info? e=some i)(hz:i.zero=some z)
  (Gt:i.size=size)(rj:i.bytes=bytes)(hzs:z.cells.size=size)(xS:0<size)
  (v:Value)(n:Nat)(xs:aZ)(cW:w.ownsRow base e size v n xs)
  (a:Addr)(m c:Nat)(news:aZ)(hl:news.length=m*size)(kT:∀j u,news[j]?=some u->w.cell? (a.add j)=some u)(h1:∀u∈news,u.oneCell'=true)
  (h63:n+m<=maxLen)(Dw:(n+m)*bytes<=140737488355328)(iL:base<=w.heap.size) :
  ∃v' w',(Builtin.append_ #[t,t] ty #[v,.slice (some a) m c]).run P w=.ok v' w'/\w'.ownsRow base e size v' (n+m) (xs++news)/\w.grownBy w' v.ownBlock/\Sep w v v':=by
 obtain⟨v',w',hr,h2,h3,_⟩:=run_append_own (P:=P) w base t ty e i z size bytes ht hi hz Gt rj hzs xS v n xs cW a m c news hl kT h1 h63 Dw iL;refine⟨v',w',hr,h2,h3,?_⟩;rcases cW.2 with ⟨rfl,rfl⟩|⟨g,cap,cur,rfl,hbg,hg,hnc,hcm,hcs,rO⟩
 ·have hx:xs=[]:=ct (by simpa using cW.1);subst hx;obtain⟨v2,w2,oF,h22,_,_⟩:=run_append_own (P:=P) w w.heap.size t ty e i z size bytes ht hi hz Gt rj hzs xS (.slice none 0 0) 0 [] (World.ownsRow_nil _ _ _ _) a m c news hl kT h1 h63 Dw (ay _);rw[hr]at oF;injection oF with e1 e2
  subst e1;exact Or.inr fun k hk=>(h22.lt k hk).1
 ·by_cases abT:n+m<=cap
  ·subst Gt;have qL:n*i.size+news.length<=cur.size:=by rw[hl,hcs, <-dI];exact bR _ abT
   have oF:=run_append_room (P:=P) w t ty e i ht hi g n cap cur hg a m c news hl kT h1 abT qL;rw[hr]at oF;injection oF with e1 e2
   subst e1;exact Or.inl rfl
  ·subst Gt;subst rj;have Iz:n+m<=9223372036854775807:=by simp only[maxLen]at h63;omega
   have holds:∀j u,xs[j]?=some u->w.cell? ((⟨g,0,none⟩:Addr).add j)=some u:=cW.cells (g:=g) rfl;have oF:=run_append_grow (P:=P) w t ty e i z ht hi hz ⟨g,0,none⟩ n cap xs cW.1 holds a m c news hl kT ab ab (growslice_fits ab Dw);rw[hr]at oF;injection oF with e1 e2
   subst e1;exact Or.inr fun k hk=>by simp[Value.ownBlock]at hk;omega
theorem zE{P:Program}{w:World}{ops:Array Oper}{rest:List Oper}{o:Oper}{a:Act}{Q:Exit->Act->World->Prop}(zm:o.guard=none)(s x:Operand)(t:TypeId)
  (ho:o.op=.call {callee:=.builtin .append,args:= #[s,x],argTypes:= #[t,t]})
  (base:Nat)(e:TypeId)(i:TypeInfo)(z:Value)(size bytes:Nat)(ht:P.underlying t=some (.slice e))(hi:P.info? e=some i)(hz:i.zero=some z)
  (Gt:i.size=size)(rj:i.bytes=bytes)(hzs:z.cells.size=size)(xS:0<size)
  (v:Value)(n:Nat)(xs:aZ)(hs:a.eval s=v)(cW:w.ownsRow base e size v n xs)
  (ad:Addr)(m c:Nat)(news:aZ)(hx:a.eval x=.slice (some ad) m c)(hl:news.length=m*size)(kT:∀j u,news[j]?=some u->w.cell? (ad.add j)=some u)(h1:∀u∈news,u.oneCell'=true)
  (h63:n+m<=maxLen)(Dw:(n+m)*bytes<=140737488355328)(iL:base<=w.heap.size)
  (h:∀v' w',w'.ownsRow base e size v' (n+m) (xs++news)->w.grownBy w' v.ownBlock->Sep w v v'->wpList P ops Q rest (a.put o.dst v') w'):wpList P ops Q (o :: rest) a w :=
 wpList_plain zm fun _ hK=>by
  obtain⟨v',w',hr,h2,h3,h4⟩:=Dv (P:=P) w base t o.type e i z size bytes ht hi hz Gt rj hzs xS v n xs cW ad m c news hl kT h1 h63 Dw iL;unfold Oper.wp execOp;simp only[ho,resolve,invoke,builtin,Sem.run_bind,Sem.run_pure,Result.andThen_ok,eH,cF,dv,hs,hx,hr];exact hK _ _ (h v' w' h2 h3 h4)
theorem B8{ops:Array Oper}{rest:List Oper}{o:Oper}{a:Act}{Q:Exit->Act->World->Prop}{w:World}(zm:o.guard=none)(s x:Operand)
  (ho:o.op=.call {callee:=.builtin .append,args:= #[s,x],argTypes:= #[110,110]})(base:Nat)(v:Value)(l:List aj)(hs:a.eval s=v)(cW:Strs base w v l)
  (ad:Addr)(c:Nat)(y:aj)(hx:a.eval x=.slice (some ad) 1 c)(hy:w.cell? ad=some (.string y))(hlen:l.length<4398046511104)(iL:base<=w.heap.size)
  (h:∀v' w',Strs base w' v' (l++[y])->w.grownBy w' v.ownBlock->Sep w v v'->wpList prog ops Q rest (a.put o.dst v') w'):wpList prog ops Q (o :: rest) a w:=by
 obtain⟨i0,hi,pD,ll,lF⟩:=info_parts zp;refine zE zm s x 110 ho base 9 i0 (.string ⟨#[]⟩) 1 16 underlying110 hi pD ll lF rfl ag v l.length (l.map Value.string) hs cW ad 1 c [.string y] hx rfl ?_ ?_ ?_ ?_ iL ?_
 ·intro j u hj
  match j,hj with
  |0,hj=>simp at hj;subst hj;simpa[Addr.add]using hy
 ·intro u hu;simp at hu;subst hu;rfl
 ·unfold maxLen;omega
 ·omega
 ·intro v' w' h1 h2 h3;exact h v' w' (by unfold Strs;simpa using h1) h2 h3
theorem KP{ops:Array Oper}{rest:List Oper}{o:Oper}{a:Act}{Q:Exit->Act->World->Prop}{w:World}(zm:o.guard=none)(s x:Operand)
  (ho:o.op=.call {callee:=.builtin .append,args:= #[s,x],argTypes:= #[110,110]})(base:Nat)(v:Value)(l:List aj)(hs:a.eval s=v)(cW:Strs base w v l)
  (vx:Value)(m:List aj)(hx:a.eval x=vx)(hm:fT w vx m)(hlen:l.length+m.length<4398046511104)(iL:base<=w.heap.size)
  (h:∀v' w',Strs base w' v' (l++m)->w.grownBy w' v.ownBlock->wpList prog ops Q rest (a.put o.dst v') w'):wpList prog ops Q (o :: rest) a w:=by
 obtain⟨i0,hi,pD,ll,lF⟩:=info_parts zp;obtain⟨ax,cx,fO⟩:=hm.form;cases ax with
 |none =>
  obtain⟨Zc,h2⟩:m=[]/\cx=0:=by
   rcases hm with ⟨a',c',hv,hs,hc⟩|⟨bk,o',c,hf,_⟩
   ·rw[fO]at hv;injection hv with e1 e2 e3
    exact⟨hs,e3.trans (hc e1.symm)⟩
   ·rw[fO]at hf;injection hf with e1;cases e1
  subst Zc;have UE:a.eval x=.slice none 0 0:=by rw[hx,fO,h2];rfl
  refine wpList_append_own_none zm s x 110 ho base 9 i0 1 underlying110 hi v l.length (l.map Value.string) hs cW UE ?_;exact h v w (by rw[dV];exact cW) ⟨rfl,rfl,rfl,ay _,fun _ _ _=>rfl⟩
 |some ad =>
  refine wpList_append_own w zm s x 110 ho base 9 i0 (.string ⟨#[]⟩) 1 16 underlying110 hi pD ll lF rfl ag v l.length (l.map Value.string) hs cW ad m.length cx (m.map Value.string) (hx.trans fO) aR ?_ ?_ ?_ ?_ iL ?_
  ·intro j u hj;rcases hm with ⟨_,_,_,e,_⟩|⟨bk,o',c,hf,g1,g2,g3,g4⟩
   ·subst e;simp at hj
   ·rw[hf]at fO;cases fO;obtain⟨y,hy,rfl⟩:∃y,m[j]?=some y/\Value.string y=u:=by
     rw[List.getElem?_map]at hj;cases hmj:m[j]? with
     |none=>rw[hmj]at hj;cases hj
     |some y=>rw[hmj]at hj;exact⟨y,rfl,by simpa using hj⟩
    have ea:(Addr.add ⟨bk,o',none⟩ j)=⟨bk,o'+j,none⟩:=by unfold Addr.add;split<;>simp_all
    rw[ea];exact g4 j y hy
  ·intro u hu;obtain⟨y,_,rfl⟩:=bZ.1 hu;rfl
  ·unfold maxLen;omega
  ·omega
  ·intro v' w' h1 h2 _;exact h v' w' (by unfold Strs;simpa using h1) h2
def Still(base:Nat)(w:World)(k:Nat):Prop:=k<base\/∃c f,w.heap[k]?=some (.cells c 9 f)
def sG(base:Nat)(w:World)(S:dF):Prop:=∀k,S k->k<w.heap.size->base<=k/\∀c f,w.heap[k]?≠some (.cells c 9 f)
theorem sG.none(base:Nat)(w:World):sG base w aS:=fun _ h=>absurd h id
theorem Still.fr(h:Still base w k)(hf:Fr S w w')(ho:sG base w S):Still base w' k:=by
 rcases h with h|⟨c,f,h⟩
 ·exact Or.inl h
 ·exact Or.inr ⟨c,f,hf.keep h (fun hs=>(ho k hs (bq h)).2 c f h)⟩
structure dx (base:Nat) (w:World) (v:Value) (ss:List aj):Prop where
 rd:fT w v ss
 own:∀k,v.ownBlock=some k->ss≠ []->k<w.heap.size/\Still base w k
 sZ:ss.length<4398046511104
theorem fT.empty(h:fT w v []):fT w' v []:=by
 rcases h with h|⟨bk,o,c,hv,_⟩
 ·exact Or.inl h
 ·exact Or.inl ⟨_,_,hv,rfl,fun e=>by cases e⟩
theorem dx.fr(h:dx base w v ss)(hf:Fr S w w')(ho:sG base w S):dx base w' v ss:=by
 refine⟨?_,fun k hk hs=>⟨cK (h.own k hk hs).1 hf.size,(h.own k hk hs).2.fr hf ho⟩,h.sZ⟩;by_cases he:ss=[]
 ·subst he;exact h.rd.empty
 refine h.rd.fr hf (fun k hk hs=>?_);obtain⟨hl,jx⟩:=h.own k hk he;have sH:=ho k hs hl;rcases jx with g|⟨c,f,g⟩
 ·omega
 ·exact sH.2 c f g
theorem dx.dm(h:dx base w v ss)(hf:Fr aS w w'):dx base w' v ss:=h.fr hf (sG.none _ _)
theorem dx.nil(base:Nat)(w:World):dx base w (.slice none 0 0) []:=⟨fT.nil w,fun k hk=>by simp[Value.ownBlock]at hk,aR⟩
theorem Strs.in{base b:Nat}(h:Strs b w v ss)(hl:ss.length<4398046511104):dx base w v ss:=by
 refine⟨h.at,fun k hk _=>?_,hl⟩;rcases h.2 with ⟨hv,_⟩|⟨g,cap,cur,hv,hg,hh,_⟩
 ·rw[hv]at hk;simp[Value.ownBlock]at hk
 ·rw[hv]at hk;simp[Value.ownBlock]at hk;subst hk;exact⟨bq hh,Or.inr ⟨_,_,hh⟩⟩
inductive lq {α β:Type} (R:α->β->Prop):List α->List β->Prop
 |nil:lq R [] []
 |cons {a b l m}:R a b->lq R l m->lq R (a :: l) (b :: m)
namespace lq
variable {α β : Type} {R T : α → β → Prop} {l l' : List α} {m m' : List β}
theorem len(h:lq R l m):l.length=m.length:=by induction h with
 |nil=>rfl
 |cons _ _ ih=>simp[ih]
theorem mono(h:lq R l m)(hs:∀a b,R a b->T a b):lq T l m:=by induction h with
 |nil=>exact .nil
 |cons h _ ih=>exact .cons (hs _ _ h) ih
theorem get(h:lq R l m){i:Nat}{a:α}(hi:l[i]?=some a):∃b,m[i]?=some b/\R a b:=by
 induction h generalizing i with
 |nil=>simp at hi
 |cons h _ ih =>
  cases i with
  |zero=>simp at hi;subst hi;exact⟨_,rfl,h⟩
  |succ i=>simpa using ih (by simpa using hi)
theorem app(h:lq R l m)(h':lq R l' m'):lq R (l++l') (m++m'):=by induction h with
 |nil=>exact h'
 |cons h _ ih=>exact .cons h ih
theorem take(h:lq R l m)(n:Nat):lq R (l.take n) (m.take n):=by
 induction h generalizing n with
 |nil=>simp;exact .nil
 |cons h _ ih=>cases n with
  |zero=>exact .nil
  |succ n=>exact .cons h (ih n)
theorem drop(h:lq R l m)(n:Nat):lq R (l.drop n) (m.drop n):=by
 induction h generalizing n with
 |nil=>simp;exact .nil
 |cons h t ih=>cases n with
  |zero=>exact .cons h t
  |succ n=>exact ih n
theorem filter(h:lq R l m){p:α->Bool}{q:β->Bool}(hpq:∀a b,R a b->p a=q b):lq R (l.filter p) (m.filter q):=by
 induction h with
 |nil=>exact .nil
 |cons h _ ih =>
  rw[List.filter_cons,List.filter_cons,hpq _ _ h];split
  ·exact .cons h ih
  ·exact ih
end lq
theorem Fr.setRow{a w:World}(h:Fr S a w)(hg:g<a.heap.size->S g)(cs:bT):Fr S a (w.setRow g cs) :=
 ⟨h.os,h.tape,h.output,by simpa[World.setRow]using h.size,fun k hk hn=>by
  rw[<-h.block k hk hn];simp only[World.setRow,Array.getElem?_modify];by_cases e:g=k
  ·subst e;exact absurd (hg hk) hn
  ·simp[e]⟩
def own(v:Value):dF:=fun k=>v.ownBlock=some k
theorem OwnRows.off{base b k:Nat}{e:TypeId}{xs:dh}(h:OwnRows b e k w v xs)(hb:base<=b)(he:e≠9):sG base w (own v):=by
 intro g hg _;obtain⟨cap,cur,_,h1,h2,_⟩:=h.open hg;exact⟨aE hb h1,fun c f e2=>by rw[h2]at e2;cases e2;exact he rfl⟩
theorem Fr.Qa(o:Obj)(h:(w.alloc o).grownBy w' v.ownBlock):Fr (own v) w w' :=
 ((ae (own v) w).alloc o).grown h (fun _ hk _=>hk)
abbrev fJ := @sG.none
open Go.RowKit
def kV:Nat->Nat->aH
 |0,_=>[]
 |k+1,n=>kV k (n/16)++[DK (n%16).toUInt8]
theorem nZ:∀k n,(kV k n).length=k
 |0,_=>rfl
 |k+1,n=>by rw[kV,aK,nZ k];rfl
theorem Cb:∀j n,DK (n/16^j%16).toUInt8 :: kV j n=kV (j+1) n
 |0,n=>by simp[kV]
 |j+1,n=>by
  have h:=Cb j (n/16);rw[Nat.div_div_eq_div_mul,show 16*16^j=16^(j+1)from by rw[Nat.pow_succ];omega]at h;show _ :: (kV j (n/16)++[_])=kV (j+1) (n/16)++[_];rw[<-h];rfl
theorem Cc:∀d,kV d 0=List.replicate d 48
 |0=>rfl
 |d+1=>by
  rw[kV,show(0:Nat)/16=0 from rfl,Cc d,List.replicate_succ'];rfl
theorem DM:∀k d n,n<16^k->List.replicate d 48++kV k n=kV (k+d) n
 |0,d,n,h=>by
  obtain rfl:n=0:=by simpa using h
  rw[bz,Cc d];exact dV _
 |k+1,d,n,h=>by
  have h2:n/16<16^k:=by rw[Nat.pow_succ]at h;omega
  rw[show k+1+d=(k+d)+1 from ab,kV,kV, <-DM k d (n/16) h2,cN]
def jK(n:Nat):aH:=kV 8 n
def DU(dQ:Bool)(x:Int)(i:Nat):UInt8:=if dQ then(x/2^(8*i)%256).toNat.toUInt8 else(x/2^(24-8*i)%256).toNat.toUInt8
def qC(dQ:Bool)(x:Int):aH:=(List.range 4).map (DU dQ x)
def lg(dQ:Bool)(ws:List Int):aH:=ws.flatMap (qC dQ)
def oZ(dQ:Bool)(ws:List Int):aH:=yE (lg dQ ws)
theorem uk(dQ:Bool)(x:Int):(qC dQ x).length=4:=by simp[qC]
theorem DV(dQ:Bool)(x:Int)(j:Nat)(hj:j<4):(qC dQ x).take (j+1)=(qC dQ x).take j++[DU dQ x j]:=by
 have hg:(qC dQ x)[j]?=some (DU dQ x j):=by simp[qC,hj]
 rw[cj,hg];rfl
theorem ov(dQ:Bool)(ws:List Int):(lg dQ ws).length=4*ws.length:=by
 unfold lg
 induction ws with
 |nil=>rfl
 |cons a l ih=>rw[List.flatMap_cons,aK,uk,ih,List.length_cons];omega
theorem zP(dQ:Bool){ws:List Int}{x:Int}(h:ws[k]?=some x):lg dQ (ws.take (k+1))=lg dQ (ws.take k)++qC dQ x:=by
 rw[cj,h];simp[lg]
theorem Li(x:Int)(e:Nat):(((x/2^e%256).toNat.toUInt8.toNat:Nat):Int)=x/2^e%256:=by
 have h1:=Int.emod_nonneg (x/2^e) (show(256:Int)≠0 from ag);have h2:=Int.emod_lt_of_pos (x/2^e) (show(0:Int)<256 from ag);generalize x/2^e%256=y at *
 rw[show y.toNat.toUInt8.toNat=y.toNat from by simp[Nat.toUInt8];omega];omega
def ab'(dQ:Bool)(ws:List Int)(w:World)(v i:Value)(wr:World):Prop:=∃k:Nat,k<=ws.length/\i=.int .i64 k/\Bytes w.heap.size wr v (lg dQ (ws.take k))/\Fr aS w wr
def ahX(dQ:Bool)(pre:aH)(x:Int)(w:World)(v i:Value)(wr:World):Prop:=∃j:Nat,j<=4/\i=.int .i64 j/\Bytes w.heap.size wr v (pre++(qC dQ x).take j)/\Fr aS w wr
theorem Cd(g:Nat)(ws:List Int)(dQ:Bool)(w:World)(hl:ws.length<=8)(hg:g<w.heap.size)(hc:∀(j:Nat) x,ws[j]?=some x->w.cell? ⟨g,j,none⟩=some (.int .u32 x))(hx:∀x∈ws,0<=x/\x<4294967296) :
  aB 241 #[.slice (some ⟨g,0,none⟩) ws.length ws.length,.bool dQ] w fun e w'=>e=.returned (.string ⟨(oZ dQ ws).toArray⟩)/\Fr aS w w':=by
 have HC:=O hc;have HX:=O hx;clear hc hx;cases dQ
 all_goals
  go_enter func241,ntmps241;go_wp2
 ·go_loopw[5,11] (ab' false ws w) (fun _ i _=>ws.length-(intOf i).toNat)
  case atStart=>exact⟨0,aL _,rfl,Bytes.nil _ _,ae _ _⟩
  case round =>
   obtain⟨k,hk,rfl,cW,cP⟩:=hrel;by_cases fe:k<ws.length
   ·have dS:=O (List.getElem?_eq_getElem fe);obtain⟨x0,x1⟩:=HX.o _ (bO fe);have hcell:wr.cell? ⟨g,k,none⟩=some (.int .u32 ws[k]):=(cP.cell (p:=⟨g,k,none⟩) hg id).trans (HC.o k _ dS.o);generalize ws[k]=x at *
    have JX:=O (zP false dS.o);have Fp:=O (show(lg false (ws.take k)).length<=32 by rw[ov,aJ];omega);generalize lg false (ws.take k)=pre at *
    obtain⟨av,cv,hv⟩:=cW.form;subst hv;go_wp2;clear hcell;go_loopw[5,15] (ahX false pre x w) (fun _ i _=>4-(intOf i).toNat)
    case atStart=>exact⟨0,ab,rfl,by simpa using cW,cP⟩
    case round =>
     obtain⟨j,hj,rfl,fG,jz⟩:=hrel;have iL:w.heap.size<=wr.heap.size:=jz.size;obtain⟨av,cv,hv⟩:=fG.form;subst hv;by_cases hj4:j<4
     ·have Gs:(j:Int)<4:=ab;have kj:=O (DV false x j hj4);have rj:x/2^(24-8*j)%256=((DU false x j).toNat:Int):=(Li x (24-8*j)).symm;generalize DU false x j=c at *
      have U3:=O (show(pre++(qC false x).take j).length<100 by rw[aK,aJ,uk];have:=Fp.o;omega);go_wp2_with (at_builtin;refine ku rfl _ _ rfl w.heap.size (.slice av _ cv) (pre++(qC false x).take j) rfl (by apply gL;exact fG) ⟨wr.heap.size,0,none⟩ 1 c rfl (jC _ _ _ _) (by have:=U3.o;omega) bH ?_;intro v' w2 fC xT)
      go_roundw
      case rel=>exact⟨j+1,ab,bg,by rw[kj.o, <-cN];exact fC,(jz.alloc _).fW xT fG.block⟩
      case measure=>simp[intOf];omega
     ·have hj5:j=4:=ab;subst hj5;have fC:Bytes w.heap.size wr (.slice av (pre++(qC false x).take 4).length cv) (pre++qC false x):=by
       have h:=fG;rw[aD (by rw[uk];omega)]at h ⊢; exact h
      have HO:=O fC;clear fC fG;go_wp2;go_roundw
      case rel=>exact⟨k+1,ab,bg,by rw[JX.o];exact HO.o,jz⟩
      case measure=>simp[intOf];omega
   ·rw[aD ab]at cW;have Fq:(lg false ws).length<=32:=by rw[ov];omega
    have jx:=O (show oZ false ws=yE (lg false ws)from rfl);generalize lg false ws=bs at *
    obtain⟨av,cv,hv⟩:=cW.form;subst hv;have BR:=cW.text;go_wp2_with fail
    refine(Qi ⟨bs.toArray⟩ wr (by show bs.toArray.size<_;simp;omega)).mono ?_;rintro e w3⟨rfl,iz⟩;go_wp2;go_ret;rw[jx.o];exact⟨rfl,cP.trans iz⟩
 ·go_loopw[5,11] (ab' true ws w) (fun _ i _=>ws.length-(intOf i).toNat)
  case atStart=>exact⟨0,aL _,rfl,Bytes.nil _ _,ae _ _⟩
  case round =>
   obtain⟨k,hk,rfl,cW,cP⟩:=hrel;by_cases fe:k<ws.length
   ·have dS:=O (List.getElem?_eq_getElem fe);obtain⟨x0,x1⟩:=HX.o _ (bO fe);have hcell:wr.cell? ⟨g,k,none⟩=some (.int .u32 ws[k]):=(cP.cell (p:=⟨g,k,none⟩) hg id).trans (HC.o k _ dS.o);generalize ws[k]=x at *
    have JX:=O (zP true dS.o);have Fp:=O (show(lg true (ws.take k)).length<=32 by rw[ov,aJ];omega);generalize lg true (ws.take k)=pre at *
    obtain⟨av,cv,hv⟩:=cW.form;subst hv;go_wp2;clear hcell;go_loopw[5,15] (ahX true pre x w) (fun _ i _=>4-(intOf i).toNat)
    case atStart=>exact⟨0,ab,rfl,by simpa using cW,cP⟩
    case round =>
     obtain⟨j,hj,rfl,fG,jz⟩:=hrel;have iL:w.heap.size<=wr.heap.size:=jz.size;obtain⟨av,cv,hv⟩:=fG.form;subst hv;by_cases hj4:j<4
     ·have Gs:(j:Int)<4:=ab;have kj:=O (DV true x j hj4);have rj:x/2^(8*j)%256=((DU true x j).toNat:Int):=(Li x (8*j)).symm;generalize DU true x j=c at *
      have U3:=O (show(pre++(qC true x).take j).length<100 by rw[aK,aJ,uk];have:=Fp.o;omega);go_wp2_with (at_builtin;refine ku rfl _ _ rfl w.heap.size (.slice av _ cv) (pre++(qC true x).take j) rfl (by apply gL;exact fG) ⟨wr.heap.size,0,none⟩ 1 c rfl (jC _ _ _ _) (by have:=U3.o;omega) bH ?_;intro v' w2 fC xT)
      go_roundw
      case rel=>exact⟨j+1,ab,bg,by rw[kj.o, <-cN];exact fC,(jz.alloc _).fW xT fG.block⟩
      case measure=>simp[intOf];omega
     ·have hj5:j=4:=ab;subst hj5;have fC:Bytes w.heap.size wr (.slice av (pre++(qC true x).take 4).length cv) (pre++qC true x):=by
       have h:=fG;rw[aD (by rw[uk];omega)]at h ⊢; exact h
      have HO:=O fC;clear fC fG;go_wp2;go_roundw
      case rel=>exact⟨k+1,ab,bg,by rw[JX.o];exact HO.o,jz⟩
      case measure=>simp[intOf];omega
   ·rw[aD ab]at cW;have Fq:(lg true ws).length<=32:=by rw[ov];omega
    have jx:=O (show oZ true ws=yE (lg true ws)from rfl);generalize lg true ws=bs at *
    obtain⟨av,cv,hv⟩:=cW.form;subst hv;have BR:=cW.text;go_wp2_with fail
    refine(Qi ⟨bs.toArray⟩ wr (by show bs.toArray.size<_;simp;omega)).mono ?_;rintro e w3⟨rfl,iz⟩;go_wp2;go_ret;rw[jx.o];exact⟨rfl,cP.trans iz⟩
def ad0(n:Nat):UInt8:=if n<26 then(n+65).toUInt8 else if n<52 then(n+71).toUInt8 else if n<62 then(n-4).toUInt8 else if n=62 then 43 else 47
def CE(a b c:UInt8):Nat:=a.toNat*65536+b.toNat*256+c.toNat
def sM(v i:Nat):UInt8:=ad0 (v/2^(18-6*i)%64)
def vS:aH->aH
 |[]=>[]
 |[a]=>[sM (CE a 0 0) 0,sM (CE a 0 0) 1,61,61]
 |[a,b]=>[sM (CE a b 0) 0,sM (CE a b 0) 1,sM (CE a b 0) 2,61]
 |a :: b :: c :: r=>sM (CE a b c) 0 :: sM (CE a b c) 1 :: sM (CE a b c) 2 :: sM (CE a b c) 3 :: vS r
def rT(l:aH):Nat->Nat
 |0=>0
 |k+1=>rT l k*256+(l.getD k 0).toNat
theorem D3(l:aH):∀k,rT l k<256^k
 |0=>by simp[rT]
 |k+1=>by
  have h:=D3 l k;have h2:=(l.getD k 0).toNat_lt;rw[rT,Nat.pow_succ];omega
theorem ad1(v x:Nat)(hv:v<4294967296)(hx:x<256):bits .or .i64 ((v:Int)*256) (x:Int)=((v*256+x:Nat):Int):=by
 have hm:((v:Int)*256)=((v*256:Nat):Int):=ab;rw[hm];have h1:(BitVec.ofInt 64 ((v*256:Nat):Int)).toNat=v*256:=by
  rw[BitVec.ofInt_natCast,BitVec.toNat_ofNat];exact Nat.mod_eq_of_lt ab
 have h2:(BitVec.ofInt 64 (x:Int)).toNat=x:=by
  rw[BitVec.ofInt_natCast,BitVec.toNat_ofNat];exact Nat.mod_eq_of_lt ab
 show IntKind.i64.wrap ((BitVec.ofInt 64 ((v*256:Nat):Int) ||| BitVec.ofInt 64 (x:Int)).toNat:Int)=_;have h3:v*256 ||| x=v*256+x:=by
  have h:=Nat.shiftLeft_add_eq_or_of_lt (show x<2^8 from hx) v;rw[Nat.shiftLeft_eq]at h;exact h.symm
 rw[BitVec.toNat_or,h1,h2,h3,IntWalk.i64_left];exact IntWalk.wrap64_in _ ab
theorem Vd(r:aj)(k:Nat)(h:k<r.size):rT r.data.toList (k+1)=rT r.data.toList k*256+r[k].toNat:=by
 rw[rT,List.getD_eq_getElem?_getD,byte_at r k h];rfl
theorem RF(r:aj)(k:Nat)(h:¬k<r.size):rT r.data.toList (k+1)=rT r.data.toList k*256:=by
 rw[rT,List.getD_eq_getElem?_getD,ud r k h];simp only[Option.getD_none];exact Nat.add_zero _
theorem RG(r:aj):rT r.data.toList 3=CE (r.data.toList.getD 0 0) (r.data.toList.getD 1 0) (r.data.toList.getD 2 0):=by
 show((0*256+_)*256+_)*256+_=_*65536+_*256+_;rw[ir,bz,dI,Nat.mul_assoc]
def nH(v n:Nat):aH:=[sM v 0,sM v 1,if 2<=n then sM v 2 else 61,if 3<=n then sM v 3 else 61]
def aih(w:World)(acc:aH)(v n:Nat)(i:Value)(wr:World):Prop :=
 ∃k:Nat,k<=4/\i=.int .i64 k/\Gw w.heap.size w.heap.size (acc++(nH v n).take k) wr/\Fr aS w wr/\w.heap.size<=wr.heap.size
theorem zV:∀n (h:n<64),(⟨#[65,66,67,68,69,70,71,72,73,74,75,76,77,78,79,80,81,82,83,84,85,86,87,88,89,90,97,98,99,100,101,102,103,104,105,106,107,108,109,110,111,112,113,114,115,116,117,118,119,120,121,122,48,49,50,51,52,53,54,55,56,57,43,47]⟩:aj)[n]'h=ad0 n:=dw
theorem Qv(v i:Nat)(hv:v<16777216):∃m:Nat,m<64/\ad0 m=sM v i/\bits .and .i64 ((v/2^(18-6*i):Nat):Int) 63=(m:Int):=by
 refine⟨v/2^(18-6*i)%64,Nat.mod_lt _ ag,rfl,?_⟩;have hx:v/2^(18-6*i)<16777216:=iU (Nat.div_le_self _ _) hv;generalize v/2^(18-6*i)=x at hx;have h1:(BitVec.ofInt 64 (x:Int)).toNat=x:=by
  rw[BitVec.ofInt_natCast,BitVec.toNat_ofNat];exact Nat.mod_eq_of_lt ab
 have h2:(BitVec.ofInt 64 63).toNat=63:=ag;show IntKind.i64.wrap ((BitVec.ofInt 64 (x:Int) &&& BitVec.ofInt 64 63).toNat:Int)=_;rw[BitVec.toNat_and,h1,h2,Nat.and_two_pow_sub_one_eq_mod x 6,IntWalk.i64_left];exact IntWalk.wrap64_in _ ab
theorem Lt(r:aj)(n:Nat):(r.extract n r.size).data.toList=r.data.toList.drop n:=by
 rw[ByteArray.data_extract,Array.toList_extract];show(r.data.toList.drop n).take (r.data.toList.length-n)=_;rw[aD aR]
theorem RH:∀(l:aH) (n:Nat),0<n->n<=3->n<=l.length->(n<3->n=l.length) ->
  vS l=nH (CE (l.getD 0 0) (l.getD 1 0) (l.getD 2 0)) n++vS (l.drop n)
 |[],n,h0,_,hl,_=>by simp at hl;omega
 |[a],n,h0,_,hl,_=>by
  obtain rfl:n=1:=by simp at hl;omega
  rfl
 |[a,b],n,h0,_,hl,h=>by
  obtain rfl:n=2:=by simp at hl h;omega
  rfl
 |a :: b :: c :: t,n,h0,h3,hl,h=>by
  obtain rfl:n=3:=by simp at hl h;omega
  rfl
theorem RI(r:aj)(v n:Nat)(Qc:0<n)(hn3:n<=3)(hnr:n<=r.size)(hnk:n<3->n=r.size)(hv:v=CE (r.data.toList.getD 0 0) (r.data.toList.getD 1 0) (r.data.toList.getD 2 0)) :
  vS r.data.toList=nH v n++vS (r.extract n r.size).data.toList:=by
 rw[Lt,hv];exact RH _ n Qc hn3 hnr hnk
theorem D4(r:aj)(n:Nat):(r.extract n r.size).size=r.size-n:=by
 have h:(r.extract n r.size).data.toList.length=(r.data.toList.drop n).length:=by rw[Lt]
 rw[bM]at h;exact h
def aii(r:aj)(w0:World)(v i:Value)(wr:World):Prop :=
 ∃k:Nat,k<=3/\i=.int .i64 k/\v=.int .i64 (rT r.data.toList k)/\wr=w0
def ad3(w:World)(s:aj)(v:Value)(wr:World):Prop :=
 ∃(r:aj) (acc:aH),r.size<=s.size/\v=.string r/\acc.length<=4*(s.size-r.size)/\vS s.data.toList=acc++vS r.data.toList/\Gw w.heap.size w.heap.size acc wr/\Fr aS w wr/\w.heap.size<=wr.heap.size
def lenOf:Value->Nat
 | .string r=>r.size
 |_=>0
theorem NY(s:aj)(w:World)(hs:s.size<4398046511104) :
  aB 97 #[.string s] w fun e w'=>e=.returned (.string ⟨(vS s.data.toList).toArray⟩)/\Fr aS w w':=by
 go_enter func97,ntmps97;go_wp2;go_loopw[0] (ad3 w s) (fun v _=>lenOf v)
 case atStart=>exact⟨s,[],ay _,rfl,aR,aR,Gw.new w,(ae _ _).alloc _,aR⟩
 case round =>
  obtain⟨r,acc,hr,rfl,CB,hun,hb,hf,hz⟩:=hrel;have HUN:=O hun;clear hun;by_cases hr0:0<r.size
  ·have zj:(0:Int)<(r.size:Int):=ab;obtain⟨n,Qc,hn3,hnr,hni,hnk⟩:∃n:Nat,0<n/\n<=3/\n<=r.size/\min (3:Int) (r.size:Int)=(n:Int)/\(n<3->n=r.size):=⟨min 3 r.size,ab,ab,ab,ab,ab⟩;go_wp2_with fail
   go_loopw[5,14] (aii r wr) (fun _ i _=>3-(intOf i).toNat)
   case atStart=>exact⟨0,ab,rfl,rfl,rfl⟩
   case round =>
    obtain⟨k,hk,rfl,rfl,rfl⟩:=hrel;by_cases IL:k<3
    ·have pE:(k:Int)<3:=ab;have Ve:=D3 r.data.toList k;have an1:rT r.data.toList k<65536:=cK Ve (aE (Nat.pow_le_pow_right ab (show k<=2 from ab)) ag);have au':¬(9223372036854775807:Int)<(rT r.data.toList k:Int)*256:=ab;by_cases RJ:k<n
     ·have an2:(k:Int)<(n:Int):=ab;have an3:k<r.size:=ab;have hkr:(k:Int)<(r.size:Int):=ab;have jx:=O (Vd r k an3);have oH:=r[k].toNat_lt;go_wp2_with fail
      refine⟨⟨k+1,ab,bg,?_,rfl⟩,by simp[intOf];omega⟩;rw[ad1 _ _ (Nat.lt_trans an1 ag) oH,jx.o]
     ·have an2:¬(k:Int)<(n:Int):=ab;have jx:=O (RF r k ab);go_wp2_with fail
      refine⟨⟨k+1,ab,bg,?_,rfl⟩,by simp[intOf];omega⟩;rw[jx.o];rfl
    ·have pE:¬(k:Int)<3:=ab;have IX:k=3:=ab;subst IX;have Ve:=D3 r.data.toList 3;have hvv:=O (RG r);generalize rT r.data.toList 3=v at Ve hvv;go_wp2_with fail
     go_loopw[29] (aih w acc v n) (fun i _=>4-(intOf i).toNat)
     case atStart=>exact⟨0,ab,rfl,by simpa using hb,hf,hz⟩
     case round =>
      obtain⟨k,hk,rfl,qw,dk,ll⟩:=hrel;have oM:∀j,(acc++(nH v n).take j).length<=4*s.size+4:=by intro j;rw[aK,aJ];show _+min j 4<=_;omega
      match k,hk,qw with
      |0,_,qw =>
       obtain⟨m,hm,hl,D5⟩:=Qv v 0 Ve;rw[show(((v/2^(18-6*0):Nat):Int))=(v:Int)/262144 from ab]at D5;have RJ:(0:Int)<=(n:Int):=ab;have hq:(0:Int)<=(m:Int)/\(m:Int)<64:=ab;go_wp2_with fail
       rw[zV m hm,hl];refine(kz _ _ _ (sM v 0) wr qw (by have:=oM 0;omega) ll).mono ?_;rintro e w2⟨rfl,kJ,dE⟩;have lF:w.heap.size<=w2.heap.size:=aE ll dE.size;have qj:Gw w.heap.size w.heap.size (acc++(nH v n).take (0+1)) w2:=by
        have e:(nH v n).take (0+1)=(nH v n).take 0++[(sM v 0)]:=by simp[nH, *]
        rw[e, <-cN];exact kJ
       clear qw kJ;go_wp2;go_roundw
       case rel=>exact⟨0+1,ab,bg,qj,dk.mj dE,lF⟩
       case measure=>simp[intOf]
      |1,_,qw =>
       obtain⟨m,hm,hl,D5⟩:=Qv v 1 Ve;rw[show(((v/2^(18-6*1):Nat):Int))=(v:Int)/4096 from ab]at D5;have RJ:(1:Int)<=(n:Int):=ab;have hq:(0:Int)<=(m:Int)/\(m:Int)<64:=ab;go_wp2_with fail
       rw[zV m hm,hl];refine(kz _ _ _ (sM v 1) wr qw (by have:=oM 1;omega) ll).mono ?_;rintro e w2⟨rfl,kJ,dE⟩;have lF:w.heap.size<=w2.heap.size:=aE ll dE.size;have qj:Gw w.heap.size w.heap.size (acc++(nH v n).take (1+1)) w2:=by
        have e:(nH v n).take (1+1)=(nH v n).take 1++[(sM v 1)]:=by simp[nH, *]
        rw[e, <-cN];exact kJ
       clear qw kJ;go_wp2;go_roundw
       case rel=>exact⟨1+1,ab,bg,qj,dk.mj dE,lF⟩
       case measure=>simp[intOf]
      |2,_,qw =>
       obtain⟨m,hm,hl,D5⟩:=Qv v 2 Ve;rw[show(((v/2^(18-6*2):Nat):Int))=(v:Int)/64 from ab]at D5;by_cases an4:2<=n
       ·have RJ:(2:Int)<=(n:Int):=ab;have hq:(0:Int)<=(m:Int)/\(m:Int)<64:=ab;go_wp2_with fail
        rw[zV m hm,hl];refine(kz _ _ _ (sM v 2) wr qw (by have:=oM 2;omega) ll).mono ?_;rintro e w2⟨rfl,kJ,dE⟩;have lF:w.heap.size<=w2.heap.size:=aE ll dE.size;have qj:Gw w.heap.size w.heap.size (acc++(nH v n).take (2+1)) w2:=by
         have e:(nH v n).take (2+1)=(nH v n).take 2++[(sM v 2)]:=by simp[nH, *]
         rw[e, <-cN];exact kJ
        clear qw kJ;go_wp2;go_roundw
        case rel=>exact⟨2+1,ab,bg,qj,dk.mj dE,lF⟩
        case measure=>simp[intOf]
       ·have RJ:¬(2:Int)<=(n:Int):=ab;go_wp2_with fail
        refine(kz _ _ _ 61 wr qw (by have:=oM 2;omega) ll).mono ?_;rintro e w2⟨rfl,kJ,dE⟩;have lF:w.heap.size<=w2.heap.size:=aE ll dE.size;have qj:Gw w.heap.size w.heap.size (acc++(nH v n).take (2+1)) w2:=by
         have e:(nH v n).take (2+1)=(nH v n).take 2++[61]:=by simp[nH, *]
         rw[e, <-cN];exact kJ
        clear qw kJ;go_wp2;go_roundw
        case rel=>exact⟨2+1,ab,bg,qj,dk.mj dE,lF⟩
        case measure=>simp[intOf]
      |3,_,qw =>
       obtain⟨m,hm,hl,D5⟩:=Qv v 3 Ve;rw[show(((v/2^(18-6*3):Nat):Int))=(v:Int)from ab]at D5;by_cases an4:3<=n
       ·have RJ:(3:Int)<=(n:Int):=ab;have hq:(0:Int)<=(m:Int)/\(m:Int)<64:=ab;go_wp2_with fail
        rw[zV m hm,hl];refine(kz _ _ _ (sM v 3) wr qw (by have:=oM 3;omega) ll).mono ?_;rintro e w2⟨rfl,kJ,dE⟩;have lF:w.heap.size<=w2.heap.size:=aE ll dE.size;have qj:Gw w.heap.size w.heap.size (acc++(nH v n).take (3+1)) w2:=by
         have e:(nH v n).take (3+1)=(nH v n).take 3++[(sM v 3)]:=by simp[nH, *]
         rw[e, <-cN];exact kJ
        clear qw kJ;go_wp2;go_roundw
        case rel=>exact⟨3+1,ab,bg,qj,dk.mj dE,lF⟩
        case measure=>simp[intOf]
       ·have RJ:¬(3:Int)<=(n:Int):=ab;go_wp2_with fail
        refine(kz _ _ _ 61 wr qw (by have:=oM 3;omega) ll).mono ?_;rintro e w2⟨rfl,kJ,dE⟩;have lF:w.heap.size<=w2.heap.size:=aE ll dE.size;have qj:Gw w.heap.size w.heap.size (acc++(nH v n).take (3+1)) w2:=by
         have e:(nH v n).take (3+1)=(nH v n).take 3++[61]:=by simp[nH, *]
         rw[e, <-cN];exact kJ
        clear qw kJ;go_wp2;go_roundw
        case rel=>exact⟨3+1,ab,bg,qj,dk.mj dE,lF⟩
        case measure=>simp[intOf]
      |4,_,qw =>
       have ava:(nH v n).take 4=nH v n:=rfl;have Qw:=RI r v n Qc hn3 hnr hnk hvv.o;go_wp2_with fail
       refine⟨⟨r.extract n r.size,acc++nH v n,?_,rfl,?_,?_,qw,dk,ll⟩,?_⟩
       ·rw[D4];omega
       ·rw[D4,aK];have hn4:(nH v n).length=4:=rfl;omega
       ·rw[HUN.o,Qw,cN]
       ·show(r.extract n r.size).size<r.size;rw[D4];omega
  ·have zj:¬(0:Int)<(r.size:Int):=ab;have fl:vS s.data.toList=acc:=by rw[HUN.o,show r.data.toList=[]from ct (show r.size=0 from ab)];simp[vS]
   go_wp2_with fail
   refine(B9 _ _ _ wr hb hz).mono ?_;rintro e w1⟨rfl,dk⟩;go_wp2;go_ret;rw[fl];exact⟨rfl,hf.mj dk⟩
