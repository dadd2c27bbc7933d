/- Md5, BasePure, Split1, Bank1, RowF, Home. -/
import Derived.Test.YtjdmjbdkdmbaiaaGreatDoorPk6
set_option maxRecDepth 100000
set_option maxHeartbeats 16000000
set_option linter.unusedSimpArgs false
namespace Go.Proofs.YtjdmjbdkdmbaiaaGreatDoor
open Go.RowKit
def xY:List Int:=[3614090360,3905402710,606105819,3250441966,4118548399,1200080426,2821735955,4249261313,1770035416,2336552879,4294925233,2304563134,1804603682,4254626195,2792965006,1236535329,4129170786,3225465664,643717713,3921069994,3593408605,38016083,3634488961,3889429448,568446438,3275163606,4107603335,1163531501,2850285829,4243563512,1735328473,2368359562,4294588738,2272392833,1839030562,4259657740,2763975236,1272893353,4139469664,3200236656,681279174,3936430074,3572445317,76029189,3654602809,3873151461,530742520,3299628645,4096336452,1126891415,2878612391,4237533241,1700485571,2399980690,4293915773,2240044497,1873313359,4264355552,2734768916,1309151649,4149444226,3174756917,718787259,3951481745]
def jP:List Nat:=[7,12,17,22,5,9,14,20,4,11,16,23,6,10,15,21]
def iu(w:World)(g:Nat)(k:IntKind)(zs:List Int):Prop:=g<w.heap.size/\∀(i:Nat) z,zs[i]?=some z->w.cell? ⟨g,i,none⟩=some (.int k z)
theorem iu.fr{w w':World}{g:Nat}{k:IntKind}{zs:List Int}(h:iu w g k zs)(hf:Fr ay w w'):iu w' g k zs :=
 ⟨Nat.lt_of_lt_of_le h.1 hf.size,fun i z hz=>(hf.cell (p:=⟨g,i,none⟩) h.1 (fun h=>h)).trans (h.2 i z hz)⟩
structure kX (w:World):Prop where
 s:iu w 3 .u32 xY
 t:iu w 4 .i64 (jP.map Int.ofNat)
theorem kX.fr{w w':World}(h:kX w)(hf:Fr ay w w'):kX w':=⟨h.s.fr hf,h.t.fr hf⟩
structure Md where
 a:Int
 b:Int
 c:Int
 d:Int
def Md.ok(s:Md):Prop:=(0<=s.a/\s.a<4294967296)/\(0<=s.b/\s.b<4294967296)/\(0<=s.c/\s.c<4294967296)/\(0<=s.d/\s.d<4294967296)
def Gl(x:Int):Int:=bits .xor .u32 IntKind.u32.max x
def mdF(r:Nat)(b c d:Int):Int:=match r with
 |0=>bits .or .u32 (bits .and .u32 b c) (bits .and .u32 (Gl b) d)
 |1=>bits .or .u32 (bits .and .u32 d b) (bits .and .u32 (Gl d) c)
 |2=>bits .xor .u32 (bits .xor .u32 b c) d
 |_=>bits .xor .u32 c (bits .or .u32 b (Gl d))
def Uf(r k:Nat):Nat:=match r with
 |0=>k
 |1=>(5*k+1)%16
 |2=>(3*k+5)%16
 |_=>7*k%16
def lU(X:List UInt8)(k:Nat)(s:Md):Md :=
 ⟨s.d,(s.b+gJ ((mdF (k/16) s.b s.c s.d+(s.a+xY.getD k 0+lh true (X.drop (4*Uf (k/16) k))))%4294967296) (jP.getD (k/16*4+k%4) 0))%4294967296,s.b,s.c⟩
def fH(X:List UInt8)(h:Md):Nat->Md
 |0=>h
 |k+1=>lU X k (fH X h k)
def xh(X:List UInt8)(h:Md):Md :=
 ⟨(h.a+(fH X h 64).a)%4294967296,(h.b+(fH X h 64).b)%4294967296,(h.c+(fH X h 64).c)%4294967296,(h.d+(fH X h 64).d)%4294967296⟩
def md0:Md:=⟨1732584193,4023233417,2562383102,271733878⟩
def sb(T:List UInt8):Nat->Md
 |0=>md0
 |k+1=>xh (T.drop (64*k)) (sb T k)
def Md.list(s:Md):List Int:=[s.a,s.b,s.c,s.d]
def DX(l:List UInt8):List UInt8:=jO true (sb (pd true l) ((pd true l).length/64)).list
theorem uW(x:Int):0<=x%4294967296/\x%4294967296<4294967296:=⟨Int.emod_nonneg _ (by decide),Int.emod_lt_of_pos _ (by decide)⟩
theorem KS{X:List UInt8}{k:Nat}{s:Md}(h:s.ok):(lU X k s).ok:=⟨h.2.2.2,uW _,h.2.1,h.2.2.1⟩
theorem xZ{X:List UInt8}{h:Md}(ho:h.ok):∀k,(fH X h k).ok
 |0=>ho
 |k+1=>KS (xZ ho k)
theorem Gm(X:List UInt8)(h:Md):(xh X h).ok:=⟨uW _,uW _,uW _,uW _⟩
theorem Zg:md0.ok:=by unfold Md.ok md0;decide
theorem Jn(T:List UInt8):∀k,(sb T k).ok
 |0=>Zg
 |_+1=>Gm _ _
theorem tL:∀i:Fin 16,bits .and .u64 ((jP.getD i.val 0:Nat):Int) 31=((jP.getD i.val 0:Nat):Int)/\jP.getD i.val 0<32:=by decide +kernel
theorem DY(bj:Bool)(l:List UInt8):(pd bj l).length%64=0/\(pd bj l).length<=l.length+128:=by
 unfold pd;simp only[List.length_append,List.length_replicate,iP,List.length_cons,List.length_nil];omega
theorem fg(T:ByteArray)(i:Nat):(T.extract i T.size).data.toList=T.data.toList.drop i:=by
 rw[Lib.extract_data,List.take_of_length_le (by simp)]
theorem eA(T:ByteArray)(i:Nat):(T.extract i T.size).size=T.size-i:=by
 have h:(T.extract i T.size).data.toList.length=(T.extract i T.size).size:=rfl;rw[<-h,fg,List.length_drop];simp
theorem Jo(T:ByteArray)(i j:Nat):(T.extract i T.size).extract j (T.extract i T.size).size=T.extract (i+j) T.size:=by
 apply Go.WideShapes.bytes_inj;rw[fg,fg,fg,List.drop_drop]
theorem nH{w:World}{b:Nat}{cur:Array Value}{t:TypeId}{f:Nat×Nat}(h:w.heap[b]?=some (.cells cur t f))(o:Nat)(v:Value):(w.setCell ⟨b,o,none⟩ v).heap[b]?=some (.cells (cur.setIfInBounds o v) t f):=by
 simp[World.setCell,Array.getElem?_modify,h]
def nh(w:World)(g:Nat)(h:Md):Prop:=w.heap[g]?=some (.cells #[.int .u32 h.a,.int .u32 h.b,.int .u32 h.c,.int .u32 h.d] 261 (0,0))
def afX(T:ByteArray)(g:Nat)(w:World)(t:Value)(wr:World):Prop:=∃k:Nat,64*k<=T.size/\t=.string (T.extract (64*k) T.size)/\nh wr g (sb T.data.toList k)/\Fr ay w wr
def anq(X:List UInt8)(h:Md)(g:Nat)(w:World)(a b c d i:Value)(wr:World):Prop :=
 ∃k:Nat,k<=64/\i=.int .i64 k/\a=.int .u32 (fH X h k).a/\b=.int .u32 (fH X h k).b/\c=.int .u32 (fH X h k).c/\d=.int .u32 (fH X h k).d/\nh wr g h/\Fr ay w wr
theorem Ug(s:ByteArray)(w:World)(hs:s.size<4398046511104)(ht:kX w) :
  Calls Tryz.prog 164 #[.string s] w fun e w'=>e=.returned (.string ⟨(DX s.data.toList).toArray⟩)/\Fr ay w w':=by
 have dF:Fr ay w (w.alloc (.cells #[.int .u32 1732584193,.int .u32 4023233417,.int .u32 2562383102,.int .u32 271733878] 261)):=(Fr.refl ay w).alloc _;have NJ:nh (w.alloc (.cells #[.int .u32 1732584193,.int .u32 4023233417,.int .u32 2562383102,.int .u32 271733878] 261)) w.heap.size md0:=af _ _;have HM0:=O NJ;clear NJ;go_enter Tryz.func164,Tryz.ntmps164;go_wp2_with fail
 refine(Jm s true _ (by omega)).mono ?_;rintro e w1⟨rfl,bt⟩;obtain⟨T,hT⟩:∃T,T=(⟨(pd true s.data.toList).toArray⟩:ByteArray):=⟨_,rfl⟩;rw[<-hT];have Zh:T.data.toList=pd true s.data.toList:=by rw[hT]
 have Zi:T.size=(pd true s.data.toList).length:=by rw[<-Zh];simp
 obtain⟨Zj,N7⟩:=DY true s.data.toList;rw[<-Zi]at Zj N7;have Gn:s.data.toList.length=s.size:=by simp
 rw[Gn]at N7;have se:=O (show DX s.data.toList=jO true (sb T.data.toList (T.size/64)).list by unfold DX;rw[Zh,Zi]);have HM1:=O (show nh w1 w.heap.size md0 from bt.keep HM0.out (fun h=>h));have gV:=O (dF.trans bt);clear hT Zh Zi HM0 dF bt Gn;go_wp2;go_loopw[4] (afX T w.heap.size w) (fun t _=>match t with| .string x=>x.size|_=>0)
 case atStart=>exact⟨0,by omega,by rw[Nat.mul_zero];congr 1;apply Go.WideShapes.bytes_inj;rw[fg];rfl,HM1.out,gV.out⟩
 case round =>
  obtain⟨n,hn,rfl,hm,aW⟩:=hrel;by_cases hne:64*n<T.size
  ·have Zk:64<=(T.extract (64*n) T.size).size:=by rw[eA];omega
   have ans:(T.extract (64*n) T.size).size<17592186044416:=by rw[eA];omega
   have kT:=O (Jo T (64*n) 64);have hXl:=O (fg T (64*n));have hXm:=O (eA T (64*n));generalize T.extract (64*n) T.size=X at *
   have hx:X.toList.isEmpty=false:=by
    rw[ByteArray.toList_eq];cases hq:X.data.toList with
    |nil=>rw[dw.1 hq]at Zk;omega
    |cons a l=>rfl
   have hx':¬X.toList=[]:=by rw[ByteArray.toList_eq];intro h;rw[dw.1 h]at Zk;omega
   have HM:=O hm;have h0:wr.cell? ⟨w.heap.size,0,none⟩=some (.int .u32 (sb T.data.toList n).a):=by unfold nh at hm;simp[World.cell?,hm]
   have h1:wr.cell? ⟨w.heap.size,1,none⟩=some (.int .u32 (sb T.data.toList n).b):=by unfold nh at hm;simp[World.cell?,hm]
   have h2:wr.cell? ⟨w.heap.size,2,none⟩=some (.int .u32 (sb T.data.toList n).c):=by unfold nh at hm;simp[World.cell?,hm]
   have h3:wr.cell? ⟨w.heap.size,3,none⟩=some (.int .u32 (sb T.data.toList n).d):=by unfold nh at hm;simp[World.cell?,hm]
   have o7:=O (show sb T.data.toList (n+1)=xh X.data.toList (sb T.data.toList n)by rw[hXl.out];rfl);have FQ:=O (Jn T.data.toList n);generalize sb T.data.toList n=H at *
   clear hm;go_wp2;go_quiet (fail);clear h0 h1 h2 h3;go_wp2;go_loopw[5,6,7,8,27] (anq X.data.toList H w.heap.size w) (fun _ _ _ _ i _=>64-(intOf i).toNat)
   case atStart=>exact⟨0,by omega,rfl,rfl,rfl,rfl,rfl,by exact HM.out,by first|exact aW|exact aW.drewN _⟩
   case round =>
    obtain⟨k,hk,rfl,rfl,rfl,rfl,rfl,hm,fe⟩:=hrel;obtain⟨⟨a0,a1⟩,⟨b0,b1⟩,⟨c0,c1⟩,⟨d0,d1⟩⟩:=xZ (X:=X.data.toList) FQ.out k;have HM2:=O hm;have zV:=O (show fH X.data.toList H (k+1)=lU X.data.toList k (fH X.data.toList H k)from rfl)
    have H64:=O (show k=64->xh X.data.toList H=⟨(H.a+(fH X.data.toList H k).a)%4294967296,(H.b+(fH X.data.toList H k).b)%4294967296,(H.c+(fH X.data.toList H k).c)%4294967296,(H.d+(fH X.data.toList H k).d)%4294967296⟩from fun h=>by subst h;rfl);generalize fH X.data.toList H k=M at *
    clear hm;by_cases MU:k<64
    ·have avS:(k:Int)<64:=by omega
     obtain⟨z,hz⟩:∃z,xY[k]?=some z:=⟨_,List.getElem?_eq_getElem (by show k<64;omega)⟩;have BW:=O ((ht.fr fe).s.2 k z hz);have T8:=O (show xY.getD k 0=z by rw[List.getD_eq_getElem?_getD,hz];rfl);obtain⟨m,hmm⟩:∃m:Nat,(k:Int)%4=(m:Int):=⟨k%4,by omega⟩;have hm4:m<4:=by omega
     have Uh:=O (show k%4=m by omega);clear hz;by_cases hr0:k<16
     ·have e1:(k:Int)/16=0:=by omega
      have pg:=O (show k/16=0 by omega);have Zl:=O (show Uf (k/16) k=k by rw[pg.out];rfl);obtain⟨wv,zx⟩:∃wv,wv=lh true (X.extract (4*k) X.size).data.toList:=⟨_,rfl⟩;have mQ:=O (fun W=>pV (X.extract (4*k) X.size) true W (by rw[eA];omega) (by rw[eA];omega));rw[<-zx]at mQ;have Ui:=O (show lh true (X.data.toList.drop (4*Uf (k/16) k))=wv by rw[Zl.out,zx,fg]);clear zx;go_wp2
      have cY:IntKind.i64.wrap (4*(k:Int))=4*(k:Int):=IntWalk.i64_in _ (by omega);have q0:(0:Int)<=(k:Int):=by omega
      have q1:(0:Int)<=4*(k:Int):=by omega
      have q2:4*(k:Int)<=(X.size:Int):=by omega
      have q3:4*k<=X.size:=by omega
      have q4:(4*(k:Int)).toNat=4*k:=by omega
      have x_:=BW.out;go_quiet ((go_at_call 219;exact Calls.quiet_of (mQ.out _)));clear cY q0 q1 q2 q3 q4 x_;obtain⟨z2,gU⟩:∃z2,jP[m]?=some z2:=⟨_,List.getElem?_eq_getElem (by show m<16;omega)⟩;have Zm:=(ht.fr (fe.drewN nq)).t.2 (m) (z2:Int) (by rw[List.getElem?_map,gU];rfl);have Zn:=O (show jP.getD (k/16*4+k%4) 0=z2 by rw[pg.out,Uh.out,show 0*4+m=m from by omega,List.getD_eq_getElem?_getD,gU];rfl)
      obtain⟨fC,Gp⟩:bits .and .u64 (z2:Int) 31=(z2:Int)/\z2<32:=by have h:=tL ⟨m,by omega⟩;simp only[List.getD_eq_getElem?_getD,gU,Option.getD_some]at h;exact h
      clear gU;have m0:(m:Int)<4:=by omega
      have SQ:=O (show nh (wr.drewN nq) w.heap.size H from HM2.out);have kY:=fe.drewN nq;generalize wr.drewN nq=wd at *
      go_wp2_with fail
      refine(xg _ (z2:Int) z2 wd (by omega) (by omega) fC Gp).mono ?_;rintro e w5⟨rfl,rfl⟩;have jn:=O (show lU X.data.toList k M=⟨M.d,(M.b+gJ ((mdF 0 M.b M.c M.d+(M.a+z+wv))%4294967296) z2)%4294967296,M.b,M.c⟩by unfold lU;rw[T8.out,Zn.out,Ui.out,pg.out]);clear Zm fC;go_wp2;go_roundw
      case rel=>exact⟨k+1,by omega,by go_num,by rw[zV.out,jn.out],by rw[zV.out,jn.out];rfl,by rw[zV.out,jn.out],by rw[zV.out,jn.out],SQ.out,kY⟩
      case measure=>simp[intOf];omega
     ·by_cases sL:k<32
      ·have e1:(k:Int)/16=1:=by omega
       have pg:=O (show k/16=1 by omega);obtain⟨gg,SR⟩:∃gg:Nat,gg=(5*k+1)%16:=⟨_,rfl⟩;have af0:gg<16:=by omega
       have SS:(5*(k:Int)+1)%16=(gg:Int):=by omega
       have Zl:=O (show Uf (k/16) k=gg by rw[pg.out,SR];rfl);obtain⟨wv,zx⟩:∃wv,wv=lh true (X.extract (4*gg) X.size).data.toList:=⟨_,rfl⟩;have mQ:=O (fun W=>pV (X.extract (4*gg) X.size) true W (by rw[eA];omega) (by rw[eA];omega));rw[<-zx]at mQ;have Ui:=O (show lh true (X.data.toList.drop (4*Uf (k/16) k))=wv by rw[Zl.out,zx,fg]);clear zx SR;go_wp2
       have cY:IntKind.i64.wrap (4*(gg:Int))=4*(gg:Int):=IntWalk.i64_in _ (by omega);have q0:(0:Int)<=(k:Int):=by omega
       have q1:(0:Int)<=4*(gg:Int):=by omega
       have q2:4*(gg:Int)<=(X.size:Int):=by omega
       have q3:4*gg<=X.size:=by omega
       have q4:(4*(gg:Int)).toNat=4*gg:=by omega
       have x_:=BW.out;go_quiet ((go_at_call 219;exact Calls.quiet_of (mQ.out _)));clear cY q0 q1 q2 q3 q4 x_;obtain⟨z2,gU⟩:∃z2,jP[4+m]?=some z2:=⟨_,List.getElem?_eq_getElem (by show 4+m<16;omega)⟩;have Zm:=(ht.fr (fe.drewN nq)).t.2 (4+m) (z2:Int) (by rw[List.getElem?_map,gU];rfl)
       have Zn:=O (show jP.getD (k/16*4+k%4) 0=z2 by rw[pg.out,Uh.out,show 1*4+m=4+m from by omega,List.getD_eq_getElem?_getD,gU];rfl);obtain⟨fC,Gp⟩:bits .and .u64 (z2:Int) 31=(z2:Int)/\z2<32:=by have h:=tL ⟨4+m,by omega⟩;simp only[List.getD_eq_getElem?_getD,gU,Option.getD_some]at h;exact h
       clear gU;have m0:(m:Int)<4:=by omega
       have SQ:=O (show nh (wr.drewN nq) w.heap.size H from HM2.out);have kY:=fe.drewN nq;generalize wr.drewN nq=wd at *
       go_wp2_with fail
       refine(xg _ (z2:Int) z2 wd (by omega) (by omega) fC Gp).mono ?_;rintro e w5⟨rfl,rfl⟩;have jn:=O (show lU X.data.toList k M=⟨M.d,(M.b+gJ ((mdF 1 M.b M.c M.d+(M.a+z+wv))%4294967296) z2)%4294967296,M.b,M.c⟩by unfold lU;rw[T8.out,Zn.out,Ui.out,pg.out]);clear Zm fC;go_wp2;go_roundw
       case rel=>exact⟨k+1,by omega,by go_num,by rw[zV.out,jn.out],by rw[zV.out,jn.out];rfl,by rw[zV.out,jn.out],by rw[zV.out,jn.out],SQ.out,kY⟩
       case measure=>simp[intOf];omega
      ·by_cases kR:k<48
       ·have e1:(k:Int)/16=2:=by omega
        have pg:=O (show k/16=2 by omega);obtain⟨gg,SR⟩:∃gg:Nat,gg=(3*k+5)%16:=⟨_,rfl⟩;have af0:gg<16:=by omega
        have SS:(3*(k:Int)+5)%16=(gg:Int):=by omega
        have Zl:=O (show Uf (k/16) k=gg by rw[pg.out,SR];rfl);obtain⟨wv,zx⟩:∃wv,wv=lh true (X.extract (4*gg) X.size).data.toList:=⟨_,rfl⟩;have mQ:=O (fun W=>pV (X.extract (4*gg) X.size) true W (by rw[eA];omega) (by rw[eA];omega));rw[<-zx]at mQ;have Ui:=O (show lh true (X.data.toList.drop (4*Uf (k/16) k))=wv by rw[Zl.out,zx,fg]);clear zx SR;go_wp2
        have cY:IntKind.i64.wrap (4*(gg:Int))=4*(gg:Int):=IntWalk.i64_in _ (by omega);have q0:(0:Int)<=(k:Int):=by omega
        have q1:(0:Int)<=4*(gg:Int):=by omega
        have q2:4*(gg:Int)<=(X.size:Int):=by omega
        have q3:4*gg<=X.size:=by omega
        have q4:(4*(gg:Int)).toNat=4*gg:=by omega
        have x_:=BW.out;go_quiet ((go_at_call 219;exact Calls.quiet_of (mQ.out _)));clear cY q0 q1 q2 q3 q4 x_;obtain⟨z2,gU⟩:∃z2,jP[8+m]?=some z2:=⟨_,List.getElem?_eq_getElem (by show 8+m<16;omega)⟩;have Zm:=(ht.fr (fe.drewN nq)).t.2 (8+m) (z2:Int) (by rw[List.getElem?_map,gU];rfl)
        have Zn:=O (show jP.getD (k/16*4+k%4) 0=z2 by rw[pg.out,Uh.out,show 2*4+m=8+m from by omega,List.getD_eq_getElem?_getD,gU];rfl);obtain⟨fC,Gp⟩:bits .and .u64 (z2:Int) 31=(z2:Int)/\z2<32:=by have h:=tL ⟨8+m,by omega⟩;simp only[List.getD_eq_getElem?_getD,gU,Option.getD_some]at h;exact h
        clear gU;have m0:(m:Int)<4:=by omega
        have SQ:=O (show nh (wr.drewN nq) w.heap.size H from HM2.out);have kY:=fe.drewN nq;generalize wr.drewN nq=wd at *
        go_wp2_with fail
        refine(xg _ (z2:Int) z2 wd (by omega) (by omega) fC Gp).mono ?_;rintro e w5⟨rfl,rfl⟩;have jn:=O (show lU X.data.toList k M=⟨M.d,(M.b+gJ ((mdF 2 M.b M.c M.d+(M.a+z+wv))%4294967296) z2)%4294967296,M.b,M.c⟩by unfold lU;rw[T8.out,Zn.out,Ui.out,pg.out]);clear Zm fC;go_wp2;go_roundw
        case rel=>exact⟨k+1,by omega,by go_num,by rw[zV.out,jn.out],by rw[zV.out,jn.out];rfl,by rw[zV.out,jn.out],by rw[zV.out,jn.out],SQ.out,kY⟩
        case measure=>simp[intOf];omega
       ·have e1:(k:Int)/16=3:=by omega
        have pg:=O (show k/16=3 by omega);obtain⟨gg,SR⟩:∃gg:Nat,gg=7*k%16:=⟨_,rfl⟩;have af0:gg<16:=by omega
        have SS:7*(k:Int)%16=(gg:Int):=by omega
        have Zl:=O (show Uf (k/16) k=gg by rw[pg.out,SR];rfl);obtain⟨wv,zx⟩:∃wv,wv=lh true (X.extract (4*gg) X.size).data.toList:=⟨_,rfl⟩;have mQ:=O (fun W=>pV (X.extract (4*gg) X.size) true W (by rw[eA];omega) (by rw[eA];omega));rw[<-zx]at mQ;have Ui:=O (show lh true (X.data.toList.drop (4*Uf (k/16) k))=wv by rw[Zl.out,zx,fg]);clear zx SR;go_wp2
        have cY:IntKind.i64.wrap (4*(gg:Int))=4*(gg:Int):=IntWalk.i64_in _ (by omega);have q0:(0:Int)<=(k:Int):=by omega
        have q1:(0:Int)<=4*(gg:Int):=by omega
        have q2:4*(gg:Int)<=(X.size:Int):=by omega
        have q3:4*gg<=X.size:=by omega
        have q4:(4*(gg:Int)).toNat=4*gg:=by omega
        have x_:=BW.out;go_quiet ((go_at_call 219;exact Calls.quiet_of (mQ.out _)));clear cY q0 q1 q2 q3 q4 x_;obtain⟨z2,gU⟩:∃z2,jP[12+m]?=some z2:=⟨_,List.getElem?_eq_getElem (by show 12+m<16;omega)⟩;have Zm:=(ht.fr (fe.drewN nq)).t.2 (12+m) (z2:Int) (by rw[List.getElem?_map,gU];rfl)
        have Zn:=O (show jP.getD (k/16*4+k%4) 0=z2 by rw[pg.out,Uh.out,show 3*4+m=12+m from by omega,List.getD_eq_getElem?_getD,gU];rfl);obtain⟨fC,Gp⟩:bits .and .u64 (z2:Int) 31=(z2:Int)/\z2<32:=by have h:=tL ⟨12+m,by omega⟩;simp only[List.getD_eq_getElem?_getD,gU,Option.getD_some]at h;exact h
        clear gU;have m0:(m:Int)<4:=by omega
        have SQ:=O (show nh (wr.drewN nq) w.heap.size H from HM2.out);have kY:=fe.drewN nq;generalize wr.drewN nq=wd at *
        go_wp2_with fail
        refine(xg _ (z2:Int) z2 wd (by omega) (by omega) fC Gp).mono ?_;rintro e w5⟨rfl,rfl⟩;have jn:=O (show lU X.data.toList k M=⟨M.d,(M.b+gJ ((mdF 3 M.b M.c M.d+(M.a+z+wv))%4294967296) z2)%4294967296,M.b,M.c⟩by unfold lU;rw[T8.out,Zn.out,Ui.out,pg.out]);clear Zm fC;go_wp2;go_roundw
        case rel=>exact⟨k+1,by omega,by go_num,by rw[zV.out,jn.out],by rw[zV.out,jn.out];rfl,by rw[zV.out,jn.out],by rw[zV.out,jn.out],SQ.out,kY⟩
        case measure=>simp[intOf];omega
    ·have hk5:k=64:=by omega
     subst hk5;have pW:=HM2.out;have h0:wr.cell? ⟨w.heap.size,0,none⟩=some (.int .u32 H.a):=by unfold nh at pW;simp[World.cell?,pW]
     have h1:wr.cell? ⟨w.heap.size,1,none⟩=some (.int .u32 H.b):=by unfold nh at pW;simp[World.cell?,pW]
     have h2:wr.cell? ⟨w.heap.size,2,none⟩=some (.int .u32 H.c):=by unfold nh at pW;simp[World.cell?,pW]
     have h3:wr.cell? ⟨w.heap.size,3,none⟩=some (.int .u32 H.d):=by unfold nh at pW;simp[World.cell?,pW]
     have f0:wr.frozen? ⟨w.heap.size,0,none⟩=false:=by unfold nh at pW;simp[World.frozen?,pW]
     have f1:wr.frozen? ⟨w.heap.size,1,none⟩=false:=by unfold nh at pW;simp[World.frozen?,pW]
     have f2:wr.frozen? ⟨w.heap.size,2,none⟩=false:=by unfold nh at pW;simp[World.frozen?,pW]
     have f3:wr.frozen? ⟨w.heap.size,3,none⟩=false:=by unfold nh at pW;simp[World.frozen?,pW]
     clear pW;have ant:(64:Int)<=(X.size:Int):=by omega
     go_wp2;have hb0:wr.heap[w.heap.size]?=some (.cells #[.int .u32 H.a,.int .u32 H.b,.int .u32 H.c,.int .u32 H.d] 261 (0,0)):=HM2.out;have o9:=nH hb0 0 (.int .u32 ((H.a+M.a)%4294967296));have fC:=nH o9 1 (.int .u32 ((H.b+M.b)%4294967296));have jQ:=nH fC 2 (.int .u32 ((H.c+M.c)%4294967296));have ph:=nH jQ 3 (.int .u32 ((H.d+M.d)%4294967296))
     refine⟨⟨n+1,by omega,?_,?_,(((fe.dI (p:=⟨w.heap.size,0,none⟩) (Nat.le_refl _) _).dI (p:=⟨w.heap.size,1,none⟩) (Nat.le_refl _) _).dI (p:=⟨w.heap.size,2,none⟩) (Nat.le_refl _) _).dI (p:=⟨w.heap.size,3,none⟩) (Nat.le_refl _) _⟩,?_⟩
     ·rw[kT.out];rfl
     ·rw[o7.out,H64.out rfl];exact ph
     ·show(X.extract 64 X.size).size<X.size;rw[eA];omega
  ·have Jp:64*n=T.size:=by omega
   have he:(T.extract (64*n) T.size)=⟨#[]⟩:=by apply Go.WideShapes.bytes_inj;rw[fg,List.drop_eq_nil_of_le (by simp;omega)]
   rw[he];have N8:=O (show sb T.data.toList (T.size/64)=sb T.data.toList n by rw[<-Jp];congr 1;omega);have FQ:=Jn T.data.toList n;generalize sb T.data.toList n=H at *
   have HM:=O hm;have TX:=O (vX w.heap.size H.list true wr (by show 4<=8;omega) (aj hm) (fun j x hj=>by
    unfold nh at hm
    match j,hj with
    |0,hj=>simp[Md.list]at hj;subst hj;simp[World.cell?,hm]
    |1,hj=>simp[Md.list]at hj;subst hj;simp[World.cell?,hm]
    |2,hj=>simp[Md.list]at hj;subst hj;simp[World.cell?,hm]
    |3,hj=>simp[Md.list]at hj;subst hj;simp[World.cell?,hm]
    |j+4,hj=>simp[Md.list]at hj) (fun x hx=>by
    simp only[Md.list,List.mem_cons,List.not_mem_nil,or_false]at hx;obtain⟨p0,p1,p2,p3⟩:=FQ;rcases hx with rfl|rfl|rfl|rfl<;>assumption))
   clear hm FQ;go_wp2_with fail
   refine TX.out.mono ?_;rintro e w5⟨rfl,gH⟩;go_wp2;go_ret;exact⟨by rw[se.out,N8.out];rfl,aW.trans gH⟩
theorem JB:∀l:List UInt8,(pk l).length=(l.length+2)/3*4
 |[]=>rfl
 |[_]=>by simp[pk]
 |[_,_]=>by simp[pk]
 |a :: b :: c :: r=>by
  have ih:=JB r;simp only[pk,List.length_cons]at ih ⊢;omega
theorem qI:∀(l:List UInt8) (c:UInt8) (i:Nat),Lib.indexByte l c=(i:Int)->l=l.take i++c :: l.drop (i+1)/\c∉l.take i
 |[],c,i,h=>by simp[Lib.indexByte]at h
 |x :: l,c,i,h=>by
  have hge:=Lib.indexByte_ge l c;have h':(if x==c then(0:Int)else if Lib.indexByte l c== -1 then -1 else Lib.indexByte l c+1)=(i:Int):=h;by_cases hx:x=c
  ·rw[if_pos (by simpa using hx)]at h';obtain rfl:i=0:=by omega
   subst hx;exact⟨rfl,by simp⟩
  ·rw[if_neg (by simpa using hx)]at h';by_cases h1:Lib.indexByte l c= -1
   ·rw[if_pos (by simpa using h1)]at h';omega
   ·rw[if_neg (by simpa using h1)]at h';obtain⟨j,rfl⟩:∃j,i=j+1:=⟨i-1,by omega⟩;obtain⟨e1,e2⟩:=qI l c j (by omega);refine⟨?_,?_⟩
    ·show x :: l=x :: (l.take j++c :: l.drop (j+1));rw[<-e1]
    ·intro hc;rcases List.mem_cons.1 hc with rfl|hc
     ·exact hx rfl
     ·exact e2 hc
theorem Oi{l:List UInt8}{c:UInt8}{i:Nat}(h:Lib.indexByte l c=(i:Int)):i<l.length:=by
 obtain⟨e,_⟩:=qI l c i h;have:=congrArg List.length e;simp at this;omega
def dX(c:UInt8)(s:ByteArray):List ByteArray:=(bD c s.data.toList).map fun l=>⟨l.toArray⟩
theorem jR(s:ByteArray)(a b:Nat):s.extract a b=⟨((s.data.toList.drop a).take (b-a)).toArray⟩:=by
 have h:=Lib.extract_data s a b;have h2:(s.extract a b).data=((s.data.toList.drop a).take (b-a)).toArray:=by rw[<-h]
 calc s.extract a b=⟨(s.extract a b).data⟩:=rfl
  _=_:=by rw[h2]
theorem yk(c:UInt8)(s:ByteArray)(i:Nat)(h:Lib.indexByte s.data.toList c=(i:Int)):dX c s=s.extract 0 i :: dX c (s.extract (i+1) s.size):=by
 obtain⟨e,hn⟩:=qI _ _ _ h;unfold dX
 conv=>lhs;rw[e,xw c _ _ hn,List.map_cons]
 rw[jR,jR,List.take_of_length_le (l:=s.data.toList.drop (i+1)) (by simp)];rfl
theorem vZ(c:UInt8)(s:ByteArray)(h:¬0<=Lib.indexByte s.data.toList c):dX c s=[s]:=by
 have hn:c∉s.data.toList:=fun hc=>(xb _ _).1 h c hc rfl;unfold dX;rw[xx c _ hn];rfl
theorem sj(s:ByteArray)(c:UInt8):Lib.indexB s ⟨#[c]⟩=Lib.indexByte s.data.toList c:=by
 show Lib.index s.data.toList [c]=_;exact Lib.index_one _ _
theorem v8(c:UInt8):∀(k:Nat) (s:ByteArray),Lib.countB s ⟨#[c]⟩=k->Lib.splitB ⟨#[c]⟩ 0 k s=dX c s
 |0,s,hk=>by
  rcases Lib.indexB_cases s ⟨#[c]⟩with rm|⟨i,rm,_⟩
  ·rw[Lib.splitB_zero,vZ c s (by rw[<-sj,rm];decide)]
  ·have:=Lib.countB_hit s ⟨#[c]⟩ i (Nat.le_refl _) rm;omega
 |k+1,s,hk=>by
  rcases Lib.indexB_cases s ⟨#[c]⟩with rm|⟨i,rm,_⟩
  ·rw[Lib.countB_miss s ⟨#[c]⟩ rm]at hk;omega
  ·have hct:=Lib.countB_hit s ⟨#[c]⟩ i (Nat.le_refl _) rm;rw[Lib.splitB_hit _ 0 k s i rm,yk c s i (by rw[<-sj];exact rm)];have e:Lib.splitB ⟨#[c]⟩ 0 k (s.extract (i+(⟨#[c]⟩:ByteArray).size) s.size)=dX c (s.extract (i+1) s.size):=v8 c k (s.extract (i+1) s.size) (by
    have:Lib.countB (s.extract (i+(⟨#[c]⟩:ByteArray).size) s.size) ⟨#[c]⟩=k:=by omega
    exact this)
   rw[e];rfl
theorem Gw(s:ByteArray)(c:UInt8):Lib.countB s ⟨#[c]⟩=Lib.countByte s.data.toList c:=by
 show Lib.count s.data.toList [c]=_;exact Lib.count_one _ _
theorem sk(s:ByteArray)(c:UInt8)(w:World)(hs:s.size<4294967281) :
  Calls Tryz.prog 67 #[.string s,.string ⟨#[c]⟩] w fun e w'=>e=.returned (.slice (some ⟨w.heap.size,0,none⟩) (dX c s).length (dX c s).length)/\w'=w.alloc (.cells ((dX c s).map Value.string).toArray 9):=by
 have kS:(1:Nat)<=(⟨#[c]⟩:ByteArray).size:=Nat.le_refl _;have hle:=Lib.countB_le ⟨#[c]⟩ kS s.size s (Nat.le_refl _);have hlen:=Lib.splitB_all ⟨#[c]⟩ kS 0 _ s rfl;have mH:Lib.splitB ⟨#[c]⟩ 0 (Lib.countB s ⟨#[c]⟩) s=dX c s:=v8 c _ s rfl;have k:Calls Tryz.prog 132 #[.string s,.string ⟨#[c]⟩,.int .i64 (0:Nat),.int .i64 (-1)] w fun e w' =>
   e=.returned (.slice (some ⟨w.heap.size,0,none⟩) (Lib.splitB ⟨#[c]⟩ 0 (Lib.countB s ⟨#[c]⟩+1-1) s).length (Lib.countB s ⟨#[c]⟩+1))/\w'=w.alloc (.cells (Lib.cellsOf (Lib.splitB ⟨#[c]⟩ 0 (Lib.countB s ⟨#[c]⟩+1-1) s) (Lib.countB s ⟨#[c]⟩+1)) 9) :=
  Any.strings_genSplit_core Tryz.Tz (by kernel_rfl) s ⟨#[c]⟩ 0 (-1) (Lib.countB s ⟨#[c]⟩+1) w hs kS (Nat.zero_le _)
   (fun x cc _=>(Any.strings_Index_one Tryz.Tu x c _).mono fun e w' ⟨he,hw⟩=>⟨by rw[he,sj],hw⟩)
   ((Any.strings_Count_one Tryz.Tw s c w).mono fun e w' ⟨he,hw⟩=>⟨by rw[he,Gw],hw⟩)
   (by decide) (by decide) (by rw[if_pos (by decide)];omega)
 rw[Nat.add_sub_cancel,hlen]at k;have e2:Lib.cellsOf (Lib.splitB ⟨#[c]⟩ 0 (Lib.countB s ⟨#[c]⟩) s) (Lib.countB s ⟨#[c]⟩+1)=((Lib.splitB ⟨#[c]⟩ 0 (Lib.countB s ⟨#[c]⟩) s).map Value.string).toArray:=by rw[<-hlen];exact Lib.cellsOf_full _
 rw[e2, <-hlen,mH]at k;go_enter Tryz.func67,Tryz.ntmps67;go_wp2_with fail
 refine k.mono ?_;rintro e w1⟨rfl,rfl⟩;go_wp2;go_ret;exact⟨rfl,rfl⟩
def within(path p:ByteArray):Bool:=Lib.hasPrefix path.data.toList p.data.toList
theorem yn(path p:ByteArray)(w:World) :
  Calls Tryz.prog 257 #[.string path,.string p] w fun e w'=>e=.returned (.bool (within path p))/\w=w':=by
 go_enter Tryz.func257,Tryz.ntmps257;go_wp2_with fail
 refine(Tryz.strings_HasPrefix path p w).mono ?_;rintro e w'⟨rfl,rfl⟩;go_wp2;go_ret;exact⟨rfl,rfl⟩
def lY(path:ByteArray)(ps:List ByteArray)(n:Int):Int:=ps.foldl (fun n p=>if within path p then max n (p.size:Int)else n) n
def jS(g:cO)(gp:Bool)(ps:List ByteArray)(o:cO)(proxy:Bool)(path:ByteArray):Int:=if g.eN o&&gp==proxy then lY path ps (-1)else -1
theorem GD(path:ByteArray)(ps:List ByteArray)(p:ByteArray)(n:Int):lY path (ps++[p]) n=if within path p then max (lY path ps n) (p.size:Int)else lY path ps n:=by simp[lY]
def OA(path:ByteArray)(ps:List ByteArray)(n i:Value):Prop:=∃k:Nat,k<=ps.length/\i=.int .i64 k/\n=.int .i64 (lY path (ps.take k) (-1))
theorem Ll(g:ai Value)(o:cO)(proxy:Bool)(path:ByteArray)(ps:List ByteArray)(w:World)(hp:cX w g.paths ps) :
  Calls Tryz.prog 231 #[.agg g.cells.toArray,.agg o.cells.toArray,.bool proxy,.string path] w fun e w'=>e=.returned (.int .i64 (jS g.o g.proxy ps o proxy path))/\Fr ay w w':=by
 have hne:=vO g.o o;unfold ai.cells cO.cells;obtain⟨av,cv,hv⟩:=hp.form;rw[hv]at hp ⊢;clear hv;cases e1:g.o.eN o
 ·have HR:=O (show jS g.o g.proxy ps o proxy path= -1 by unfold jS;rw[e1];rfl);go_enter Tryz.func231,Tryz.ntmps231;go_wp2;go_ret;exact⟨by rw[HR.out];rfl,((Fr.refl _ _).alloc _).alloc _⟩
 ·cases e2:g.proxy==proxy
  ·have HR:=O (show jS g.o g.proxy ps o proxy path= -1 by unfold jS;rw[e1,e2];rfl);have WX:(g.proxy !=proxy)=true:=by rw[bne,e2];rfl
   go_enter Tryz.func231,Tryz.ntmps231;go_wp2;go_ret;exact⟨by rw[HR.out];rfl,((Fr.refl _ _).alloc _).alloc _⟩
  ·have HR:=O (show jS g.o g.proxy ps o proxy path=lY path ps (-1)by unfold jS;rw[e1,e2];rfl);have WX:(g.proxy !=proxy)=false:=by rw[bne,e2];rfl
   go_enter Tryz.func231,Tryz.ntmps231;go_wp2
   have hf:Fr ay w _:=((Fr.refl ay w).alloc (.cells #[.bool g.o.ae,.string g.o.host,.int .i64 g.o.port,.bool g.proxy,.string g.user,.string g.pass,.int .i64 g.a.scheme,.string g.a.ar,.string g.a.aE,.string g.a.aK,.bool g.a.aL,.string g.a.bU,.bool g.a.aX,g.a.dom,.int .i64 g.count,.slice av ps.length cv] 49)).alloc (.cells #[.bool o.ae,.string o.host,.int .i64 o.port] 24);have vR:=hp.bu hf
   generalize (w.alloc _).alloc _=W at hf vR;clear hp hne e1 e2 WX
   go_loop [9,26] (OA path ps) (fun _ i=>ps.length-(intOf i).toNat)
   case atStart=>exact⟨0,Nat.zero_le _,rfl,rfl⟩
   case round =>
    obtain⟨k,hk,rfl,rfl⟩:=hrel;by_cases cG:k<ps.length
    ·rcases vR with ⟨_,_,_,e,_⟩|⟨bk,of,c,bt,h1,h2,h3,h4⟩
     ·rw[e]at cG;exact absurd cG (Nat.not_lt_zero _)
     ·cases bt;unfold maxLen at h2;have bC:=O (List.getElem?_eq_getElem cG);have hc:=h4 k _ bC.out;generalize ps[k]=x at bC hc;have rO:=O (show lY path (ps.take (k+1)) (-1)=if within path x then max (lY path (ps.take k) (-1)) (x.size:Int)else lY path (ps.take k) (-1)by rw[bz bC.out,GD]);clear h4;generalize lY path (ps.take k) (-1)=n at *
      cases hw:within path x
      ·have yo:=O (show lY path (ps.take (k+1)) (-1)=n by rw[rO.out,hw];rfl);go_wp2_with fail
       refine(yn path x W).mono ?_;rintro e w1⟨rfl,rfl⟩;rw[hw];go_wp2
       go_round
       case rel=>exact⟨k+1,by omega,by go_num,by rw[yo.out]⟩
       case measure=>simp[intOf];omega
      ·have yo:=O (show lY path (ps.take (k+1)) (-1)=max n (x.size:Int)by rw[rO.out,hw];rfl);go_wp2_with fail
       refine(yn path x W).mono ?_;rintro e w1⟨rfl,rfl⟩;rw[hw];go_wp2
       go_round
       case rel=>exact⟨k+1,by omega,by go_num,by rw[yo.out]⟩
       case measure=>simp[intOf];omega
    ·have bR:=O (show lY path (ps.take k) (-1)=lY path ps (-1)by rw[List.take_of_length_le (by omega)]);go_wp2;go_ret;exact⟨by rw[HR.out,bR.out];rfl,hf⟩
def dn(S:Nat->Prop)(w:World)(g:Nat)(cap:Array Value)(p:List Value->Bool)(xs:List (List Value)):Prop :=
 ∀x,x∈xs->∀u,Fr S w u->Calls Tryz.prog g (#[.agg x.toArray]++cap) u fun e u'=>e=.returned (.bool (p x))/\Fr ay u u'
theorem dn.none{S:Nat->Prop}{w:World}{g:Nat}{cap:Array Value}{p:List Value->Bool}{xs:List (List Value)}(h:dn S w g cap p xs):dn ay w g cap p xs :=
 fun x hx u hu=>h x hx u (hu.mono (fun _ _ h=>absurd h (fun h=>h)))
theorem eB{P:Program}(w:World)(t e ty:TypeId)(zs:Array Value)(ht:P.underlying t=some (.slice e))(hv:∀w,(zeroValue e).run P w=.ok (.agg zs) w)(hs:0<zs.size)(h1:∀v∈zs.toList,v.oneCell'=true)(b o n c:Nat)(hn:0<n)
  (hc:w.there b o (n*zs.size)) :
  (Builtin.clear_ #[t] ty #[.slice (some ⟨b,o,none⟩) n c]).run P w=.ok (.tuple #[]) (w.setCells b o (Builtin.zeroCells zs n).toList):=by
 have hl:(Builtin.zeroCells zs n).toList.length=n*zs.size:=by simp[Builtin.zeroCells]
 have fR:=run_storeCells_cells (P:=P) b o (Builtin.zeroCells zs n).toList 0 w (by rw[hl];intro j hj;exact(hc j hj).1) (by rw[hl];intro j hj;exact(hc j hj).2) (by
  intro v nu;rw[Builtin.zeroCells,Array.mem_toList_iff,Array.mem_map]at nu;obtain⟨i,_,rfl⟩:=nu;have hm:=Nat.mod_lt i hs;rw[getElem!_pos zs _ hm];exact h1 _ (by simp))
 simp only[Nat.add_zero]at fR;obtain⟨m,rfl⟩:∃m,n=m+1:=⟨n-1,by omega⟩;have FW:(Value.agg zs).cells=zs:=rfl;simp[Builtin.clear_,run_underlying ht,hv,FW,fR]
def yK:cO:=⟨true,⟨#[97,46,116,101,115,116]⟩,443⟩
theorem EH(w:World):Calls Tryz.prog 49 #[] w fun e w'=>e=.returned (.agg yK.cells.toArray)/\Fr ay w w':=by
 go_enter Tryz.func49,Tryz.ntmps49;go_wp2;refine bodyPost_ret (results_cell_row (by rfl) _ _ w.heap.size 24 #[.bool true,.string ⟨#[97,46,116,101,115,116]⟩,.int .i64 443] (0,0) _ rfl (af _ _) Tryz.underlying24 rfl (by kernel_rfl)) rfl ?_;exact⟨rfl,(Fr.refl _ _).alloc _⟩
end Go.Proofs.YtjdmjbdkdmbaiaaGreatDoor
