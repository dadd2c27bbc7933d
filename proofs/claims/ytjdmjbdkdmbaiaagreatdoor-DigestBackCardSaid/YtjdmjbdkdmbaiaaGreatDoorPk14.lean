/- AskPure, Seconds, Plain2, Hash, Tabs. -/
import Derived.Test.YtjdmjbdkdmbaiaaGreatDoorPk9
set_option maxRecDepth 100000
set_option maxHeartbeats 16000000
set_option linter.unusedSimpArgs false
namespace Go.Proofs.YtjdmjbdkdmbaiaaGreatDoor
open Go.RowKit
abbrev Bs:=List UInt8
abbrev ew:=Bs×Bs
structure iI where
 scheme:Bs
 token:Bs
 params:List ew
def jA(c:UInt8):Bool:=bh c||c==44
def Nx:List UInt8:=[97,98,99,100,101,102,103,104,105,106,107,108,109,110,111,112,113,114,115,116,117,118,119,120,121,122,65,66,67,68,69,70,71,72,73,74,75,76,77,78,79,80,81,82,83,84,85,86,87,88,89,90,48,49,50,51,52,53,54,55,56,57,45,46,95,126,43,47]
def zp(c:UInt8):Bool:=Nx.contains c
def eN(c:UInt8):Bool:=[61].contains c
def Ny:Bs->Bool
 |[]=>true
 |c :: _=>c==44
def bS(r:Bs):Bs:=r.dropWhile bh
def dN(r:Bs):Bs:=r.dropWhile jA
def jl(r:Bs):Bool:=Ny (bS r)
def dB(r:Bs):Bs:=r.takeWhile cP
def dJ(r:Bs):Bs:=r.dropWhile cP
def FZ(b:UInt8):Bs->Bool
 |[]=>false
 |c :: _=>c==b
def gi(r:Bs):Bool:=!(dB r).isEmpty&&FZ 61 (bS (dJ r))
def gN(r:Bs):Bs:=r.takeWhile zp
def iX(r:Bs):Bs:=(r.dropWhile zp).takeWhile eN
def mI(r:Bs):Bs:=(r.dropWhile zp).dropWhile eN
def singleR(r:Bs):Option (Bs×Bs):=if !(gN r).isEmpty&&jl (mI r)then some (gN r++iX r,bS (mI r))else none
def uP:Bs->Option (Bs×Bs)
 |[]=>none
 |c :: t=>if c==34 then pq t else none
def kn(r:Bs):Option (Bs×Bs):=if(dB r).isEmpty then uP r else some (dB r,dJ r)
def iY(r:Bs):Bs:=bS ((bS (dJ r)).drop 1)
def nY(ps:List ew)(n:Bs):Bool:=ps.any fun q=>bf q.1 n
def fK(ps:List ew)(r:Bs):Except Nat (ew×Bs) :=
 if !gi r then .error 3 else
 match kn (iY r)with
 |none=>.error 3
 |some q=>if nY ps (dB r)then .error 9 else if ps.length=16 then .error 4 else .ok ((dB r,q.1),q.2)
def du:Nat->List ew->Bs->Except Nat (List ew×Bs)
 |0,ps,r=>.ok (ps,r)
 |f+1,ps,r =>
  match fK ps r with
  | .error e=>.error e
  | .ok (p,r1)=>if jl r1 then(if gi (dN r1)then du f (ps++[p]) (dN r1)else .ok (ps++[p],dN r1))else .error 3
def ko:Bs->Bool
 |[]=>false
 |c :: _=>bh c
def j9(k:Nat)(r:Bs):Except Nat (iI×Bs) :=
 if(dB r).isEmpty then .error 3
 else if k=8 then .error 4
 else if jl (dJ r)then .ok (⟨dB r,[],[]⟩,bS (dJ r))
 else if !ko (dJ r)then .error 3
 else match singleR (bS (dJ r))with
  |some q=>.ok (⟨dB r,q.1,[]⟩,q.2)
  |none=>match du ((bS (dJ r)).length+1) [] (bS (dJ r))with
   | .error e=>.error e
   | .ok q=>.ok (⟨dB r,[],q.1⟩,q.2)
def eP:Nat->List iI->Bs->Except Nat (List iI)
 |0,acc,_=>.ok acc
 |f+1,acc,r =>
  if(dN r).isEmpty then .ok acc else
  match j9 acc.length (dN r)with
  | .error e=>.error e
  | .ok (x,r1)=>eP f (acc++[x]) r1
def g_(l:Bs):Except Nat (List iI):=if 3000<l.length then .error 4 else eP (l.length+1) [] l
theorem kG(p:UInt8->Bool)(r:Bs):(r.dropWhile p).length<=r.length:=(List.dropWhile_suffix p).length_le
theorem gj(r:Bs):(bS r).length<=r.length:=kG _ r
theorem jJ(r:Bs):(dN r).length<=r.length:=kG _ r
theorem kp(p:UInt8->Bool)(r:Bs):(r.takeWhile p).length+(r.dropWhile p).length=r.length:=by
 rw[<-List.length_append,List.takeWhile_append_dropWhile]
theorem lJ(r:Bs):(dB r).length+(dJ r).length=r.length:=kp _ r
theorem zX{r:Bs}(h:(dB r).isEmpty=false):(dJ r).length<r.length:=by
 have h1:=lJ r;cases e:dB r with
 |nil=>rw[e]at h;cases h
 |cons c t=>rw[e]at h1;simp at h1;omega
theorem YW{r a z:Bs}(h:pq r=some (a,z)):a.length+z.length+1<=r.length:=Bw _ r a z (Nat.le_refl _) h
theorem Kq{r a z:Bs}(h:uP r=some (a,z)):a.length+z.length+2<=r.length:=by
 cases r with
 |nil=>cases h
 |cons c t =>
  have h':(if c==34 then pq t else none)=some (a,z):=h;by_cases hc:(c==34)=true
  ·rw[if_pos hc]at h';have:=YW h';simp;omega
  ·rw[if_neg hc]at h';cases h'
theorem Kr{r a z:Bs}(h:kn r=some (a,z)):a.length+z.length<=r.length:=by
 unfold kn at h;split at h
 ·have:=Kq h;omega
 ·cases h;have:=lJ r;omega
theorem F0(r:Bs):(iY r).length<=(dJ r).length:=by
 unfold iY;have h1:=gj ((bS (dJ r)).drop 1);have h2:=gj (dJ r);have h3:((bS (dJ r)).drop 1).length<=(bS (dJ r)).length:=by simp
 omega
theorem vM{r:Bs}(h:gi r=true):(dB r).isEmpty=false:=by
 unfold gi at h;simp only[Bool.and_eq_true,Bool.not_eq_true']at h;exact h.1
theorem xt{r:Bs}(h:gi r=true):(iY r).length+2<=r.length:=by
 have hw:=zX (vM h);unfold gi at h;simp only[Bool.and_eq_true]at h;have h2:=h.2;unfold iY;have h3:=gj (dJ r);cases e:bS (dJ r)with
 |nil=>rw[e]at h2;cases h2
 |cons c t =>
  rw[e]at h3;have h4:=gj ((c :: t).drop 1);simp at h3 h4 ⊢; omega
theorem nA{ps:List ew}{r:Bs}{p:ew}{z:Bs}(h:fK ps r=.ok (p,z)):p.1.length+p.2.length+z.length<r.length:=by
 unfold fK at h;by_cases hn:gi r=true
 ·rw[if_neg (by simp[hn])]at h;have h1:=xt hn;have h0:=F0 r;have hw:=lJ r;cases hv:kn (iY r)with
  |none=>rw[hv]at h;cases h
  |some q =>
   rw[hv]at h;simp only at h;split at h
   ·cases h
   ·split at h
    ·cases h
    ·cases h;have:=Kr (a:=q.1) (z:=q.2) hv;unfold gi at hn;simp only[Bool.and_eq_true]at hn;have h2:=hn.2;have h5:(iY r).length+1<=(dJ r).length:=by
      unfold iY;have h3:=gj (dJ r);cases e:bS (dJ r)with
      |nil=>rw[e]at h2;cases h2
      |cons c t =>
       rw[e]at h3;have h4:=gj ((c :: t).drop 1);simp at h3 h4 ⊢; omega
     simp only;omega
 ·rw[if_pos (by simpa using hn)]at h;cases h
theorem nZ:∀(f:Nat) (ps:List ew) (r:Bs),r.length<f->du f ps r=du (r.length+1) ps r
 |0,_,_,h=>absurd h (Nat.not_lt_zero _)
 |f+1,ps,r,h=>by
  rw[du,du];cases hp:fK ps r with
  |error e=>rfl
  |ok q =>
   obtain⟨p,r1⟩:=q;have hl:=nA hp;have hg:=jJ r1;simp only;split
   ·split
    ·rw[nZ f _ _ (by omega),nZ r.length _ _ (by omega)]
    ·rfl
   ·rfl
theorem xu:∀(f:Nat) (ps:List ew) (r:Bs) (q:List ew×Bs),du f ps r=.ok q->q.2.length<=r.length
 |0,ps,r,q,h=>by rw[du]at h;cases h;exact Nat.le_refl _
 |f+1,ps,r,q,h=>by
  rw[du]at h;cases hp:fK ps r with
  |error e=>rw[hp]at h;cases h
  |ok p =>
   rw[hp]at h;obtain⟨p,r1⟩:=p;have hl:=nA hp;have hg:=jJ r1;simp only at h;split at h
   ·split at h
    ·have:=xu f _ _ q h;omega
    ·cases h;simp only;omega
   ·cases h
theorem xv{r t z:Bs}(h:singleR r=some (t,z)):t.length+z.length<=r.length:=by
 unfold singleR at h;split at h
 ·cases h;have h1:=kp zp r;have h2:=kp eN (r.dropWhile zp);have h3:=gj (mI r);unfold mI at h3 ⊢;unfold gN iX;rw[List.length_append];omega
 ·cases h
theorem w_{k:Nat}{r:Bs}{x:iI}{z:Bs}(h:j9 k r=.ok (x,z)):z.length<r.length:=by
 unfold j9 at h;split at h
 ·cases h
 rename_i hw;have hw':(dB r).isEmpty=false:=by simpa using hw
 have h1:=zX hw';have h2:=gj (dJ r);split at h
 ·cases h
 split at h
 ·cases h;omega
 split at h
 ·cases h
 split at h
 ·rename_i q hq;cases h;have:=xv (t:=q.1) (z:=q.2) hq;omega
 ·split at h
  ·cases h
  ·rename_i q hq;cases h;have:=xu _ _ _ _ hq;omega
theorem kH:∀(f:Nat) (acc:List iI) (r:Bs),r.length<f->eP f acc r=eP (r.length+1) acc r
 |0,_,_,h=>absurd h (Nat.not_lt_zero _)
 |f+1,acc,r,h=>by
  rw[eP,eP];split
  ·rfl
  ·cases ho:j9 acc.length (dN r)with
   |error e=>rfl
   |ok q =>
    obtain⟨x,r1⟩:=q;have h1:=w_ ho;have h2:=jJ r;simp only;rw[kH f _ _ (by omega),kH r.length _ _ (by omega)]
theorem mJ(r:Bs):dN (dN r)=dN r:=by
 refine pF (fun c hc=>?_);have:=List.head?_dropWhile_not jA r;unfold dN at hc;rw[hc]at this;simpa using this
theorem wH(r:Bs):bS (bS r)=bS r:=by
 refine pF (fun c hc=>?_);have:=List.head?_dropWhile_not bh r;unfold bS at hc;rw[hc]at this;simpa using this
theorem Bz(r:Bs):jl (bS r)=jl r:=by unfold jl;rw[wH]
theorem n9:∀r:Bs,dN (bS r)=dN r
 |[]=>rfl
 |c :: t=>by
  cases h:bh c
  ·have:bS (c :: t)=c :: t:=by unfold bS;rw[List.dropWhile_cons_of_neg (by simp[h])]
   rw[this]
  ·have e1:bS (c :: t)=bS t:=by unfold bS;rw[List.dropWhile_cons_of_pos h]
   have e2:dN (c :: t)=dN t:=by unfold dN;rw[List.dropWhile_cons_of_pos (by simp[jA,h])]
   rw[e1,e2,n9 t]
theorem vN(f:Nat)(acc:List iI){r r':Bs}(h:dN r=dN r'):eP (f+1) acc r=eP (f+1) acc r':=by
 rw[eP,eP,h]
def Dw(c:UInt8):Bool:=decide (48<=c.toNat/\c.toNat<=57)
theorem Dx{c:UInt8}:Dw c=true↔48<=c.toNat/\c.toNat<=57:=by unfold Dw;simp
def zq:ByteArray:=⟨#[48,49,50,51,52,53,54,55,56,57]⟩
theorem F8:∀b∈zq.data.toList,b.toNat<128:=by decide +kernel
theorem NG:∀n:Fin 256,zq.data.toList.contains n.val.toUInt8=Dw n.val.toUInt8:=by decide +kernel
theorem Ks(c:UInt8):zq.data.toList.contains c=Dw c:=by
 have h:=NG ⟨c.toNat,c.toNat_lt⟩;simpa using h
theorem Dy(l:List UInt8):l.all (zq.data.toList.contains ·)=l.all Dw:=by
 congr 1;funext c;exact Ks c
def td(n:Int)(c:UInt8):Int:=min (n*10+((c.toNat:Int)-48)) 2147483648
def th(l:List UInt8):Int:=l.foldl td 0
def jL(l:List UInt8):Bool:=!l.isEmpty&&l.all Dw
theorem Kt{l:List UInt8}{k:Nat}{x:UInt8}(h:l[k]?=some x):th (l.take (k+1))=td (th (l.take k)) x:=by
 rw[List.take_add_one,h];simp[th]
theorem rN:∀(l:List UInt8) (n:Int),l.all Dw=true->0<=n->n<=2147483648->0<=l.foldl td n/\l.foldl td n<=2147483648
 |[],n,_,h0,h1=>⟨h0,h1⟩
 |c :: l,n,h,h0,h1=>by
  rw[List.all_cons,Bool.and_eq_true]at h;have hc:=Dx.1 h.1;rw[List.foldl_cons];refine rN l _ h.2 ?_ ?_<;>(unfold td;omega)
def mL(s:ByteArray)(w:World)(e:Ending)(w':World):Prop :=
 e=.returned (.tuple (if jL s.data.toList then #[.int .i64 (th s.data.toList),.nilIface]else #[.int .i64 0,.iface 116 (.int .i64 3)]))/\Fr ay w w'
theorem mL.ok{s:ByteArray}{w w':World}{e:Ending}(h:mL s w e w')(hd:jL s.data.toList=true):e=.returned (.tuple #[.int .i64 (th s.data.toList),.nilIface])/\Fr ay w w':=by
 obtain⟨he,hf⟩:=h;rw[hd]at he;exact⟨he,hf⟩
theorem mL.no{s:ByteArray}{w w':World}{e:Ending}(h:mL s w e w')(hd:jL s.data.toList=false):e=.returned (.tuple #[.int .i64 0,.iface 116 (.int .i64 3)])/\Fr ay w w':=by
 obtain⟨he,hf⟩:=h;rw[hd]at he;exact⟨he,hf⟩
def Y1(s:ByteArray)(w:World)(n i:Value)(wr:World):Prop:=∃k:Nat,k<=s.size/\i=.int .i64 k/\n=.int .i64 (th (s.data.toList.take k))/\Fr ay w wr
theorem Dz(s:ByteArray)(w:World)(hs:s.size<17592186044416) :
  Calls Tryz.prog 73 #[.string s] w (mL s w):=by
 by_cases h0:s.size=0
 ·have Ku:=dw.2 h0;have hd:=O (show jL s.data.toList=false by rw[Ku];rfl);have he:s.toList.isEmpty=true:=by rw[ByteArray.toList_eq,Ku];rfl
  have he':s.toList=[]:=by rw[ByteArray.toList_eq,Ku]
  clear Ku;go_enter Tryz.func73,Tryz.ntmps73;go_wp2;go_ret2;unfold mL;rw[hd.out];exact⟨rfl,Fr.refl _ _⟩
 ·have hne:s.data.toList≠ []:=fun h=>h0 (dw.1 h);have he:s.toList.isEmpty=false:=by rw[ByteArray.toList_eq];simpa using hne
  have he':¬s.toList=[]:=by rw[ByteArray.toList_eq];exact hne
  have TR:=O (mK s zq w (by omega) (by decide) (by decide) F8);cases dy:s.data.toList.all Dw
  ·have hd:=O (show jL s.data.toList=false by unfold jL;rw[dy];simp);have IZ:=O (show Lib.trimS s.data.toList zq.data.toList≠ []from fun h=>by rw[qB,Dy,dy]at h;cases h);clear dy hne;go_enter Tryz.func73,Tryz.ntmps73;go_wp2_with fail
   refine TR.out.mono ?_;rintro e w1⟨rfl,bt⟩;have t1:¬(⟨(Lib.trimS s.data.toList zq.data.toList).toArray⟩:ByteArray).toList=[]:=by rw[ByteArray.toList_eq];simpa using IZ.out
   have t2:(⟨(Lib.trimS s.data.toList zq.data.toList).toArray⟩:ByteArray).toList.isEmpty=false:=by rw[ByteArray.toList_eq];simpa using IZ.out
   generalize (⟨(Lib.trimS s.data.toList zq.data.toList).toArray⟩:ByteArray)=z at *
   go_wp2;go_ret2;unfold mL;rw[hd.out];exact⟨rfl,bt⟩
  ·have hd:=O (show jL s.data.toList=true by unfold jL;rw[dy];simpa using hne);have IZ:=O (show Lib.trimS s.data.toList zq.data.toList=[]by rw[qB,Dy,dy]);have Dn:=O dy;clear dy hne;go_enter Tryz.func73,Tryz.ntmps73;go_wp2_with fail
   refine TR.out.mono ?_;rintro e w1⟨rfl,bt⟩;rw[IZ.out];clear TR;go_wp2;go_loopw[4,16] (Y1 s w) (fun _ i _=>s.size-(intOf i).toNat)
   case atStart=>exact⟨0,Nat.zero_le _,rfl,rfl,bt⟩
   case round =>
    obtain⟨k,hk,rfl,rfl,aW⟩:=hrel;have hr:=rN (s.data.toList.take k) 0 (by rw[List.all_eq_true];exact fun x hx=>List.all_eq_true.1 Dn.out x (List.mem_of_mem_take hx)) (by omega) (by omega);change 0<=th (s.data.toList.take k)/\th (s.data.toList.take k)<=2147483648 at hr;obtain⟨r0,r1⟩:=hr;by_cases cG:k<s.size
    ·have bC:=byte_at s k cG;have Ww:=Dx.1 (List.all_eq_true.1 Dn.out _ (List.mem_of_getElem? bC));have rO:=O (Kt bC);generalize hx:s[k]=x at bC Ww rO;obtain⟨d0,d1⟩:=Ww;clear bC;generalize th (s.data.toList.take k)=n at *
     go_wp2;go_roundw
     case rel=>exact⟨k+1,by omega,by go_num,by rw[rO.out];rfl,aW⟩
     case measure=>simp[intOf];omega
    ·have bR:=O (show th (s.data.toList.take k)=th s.data.toList by rw[List.take_of_length_le (by simp;omega)]);go_wp2;go_ret2;unfold mL;rw[hd.out, <-bR.out];exact⟨rfl,aW⟩
def Aa(s:ByteArray):Bool:=s.data.toList.all fun c=>!eR c
def lQ:List ByteArray:=[⟨#[97,112,112,108,105,99,97,116,105,111,110,47,120,45,119,119,119,45,102,111,114,109,45,117,114,108,101,110,99,111,100,101,100]⟩,⟨#[109,117,108,116,105,112,97,114,116,47,102,111,114,109,45,100,97,116,97]⟩,⟨#[116,101,120,116,47,112,108,97,105,110]⟩]
def mN(s:ByteArray)(c:UInt8):ByteArray:=if 0<=Lib.indexByte s.data.toList c then s.extract 0 (Lib.indexByte s.data.toList c).toNat else s
def Ab(s:ByteArray):ByteArray:=⟨(iK (Lib.trimS (mN s 59).data.toList [32,9])).toArray⟩
def gI(name value:ByteArray):Bool :=
 if 128<value.size then false
 else if iK name.data.toList=[97,99,99,101,112,116]then Aa value
 else if iK name.data.toList=[97,99,99,101,112,116,45,108,97,110,103,117,97,103,101]then pJ value
 else if iK name.data.toList=[99,111,110,116,101,110,116,45,108,97,110,103,117,97,103,101]then pJ value
 else if iK name.data.toList=[99,111,110,116,101,110,116,45,116,121,112,101]then Aa value&&Lib.containsS lQ (Ab value)
 else false
theorem n_(p:UInt8->Bool):∀l:List UInt8,(l.dropWhile p).length<=l.length
 |[]=>Nat.le_refl _
 |a :: l=>by
  rw[List.dropWhile_cons];split
  ·exact Nat.le_succ_of_le (n_ p l)
  ·exact Nat.le_refl _
theorem DB(l cs:List UInt8):(Lib.trimS l cs).length<=l.length:=by
 unfold Lib.trimS Lib.trimLeftS Lib.trimRightS;refine Nat.le_trans (n_ _ _) ?_;rw[List.length_reverse];refine Nat.le_trans (n_ _ _) ?_;rw[List.length_reverse];exact Nat.le_refl _
def afz(s:ByteArray)(w:World)(b i:Value)(wr:World):Prop:=∃k:Nat,k<=s.size/\i=.int .i64 k/\b=.bool ((s.data.toList.take k).all fun c=>!eR c)/\Fr ay w wr
theorem Kv(name value:ByteArray)(w:World)(hn:name.size<100000)(hv:value.size<100000) :
  Calls Tryz.prog 207 #[.agg #[.string name,.string value]] w fun e w'=>e=.returned (.bool (gI name value))/\Fr ay w w':=by
 obtain⟨wb,eQ⟩:∃wb,wb=w.alloc (.cells #[.string name,.string value] 126):=⟨_,rfl⟩;have fa:Fr ay w wb:=by rw[eQ];exact(Fr.refl ay w).alloc _
 have gZ:wb.heap[w.heap.size]?=some (.cells #[.string name,.string value] 126 (0,0)):=by rw[eQ];exact af _ _
 have HC:=O (show∀U,Fr ay wb U->U.cell? ⟨w.heap.size,0,none⟩=some (.string name)/\U.cell? ⟨w.heap.size,1,none⟩=some (.string value)from fun U hU=>by
  have j1:=hU.keep gZ (fun h=>h);simp[World.cell?,j1])
 have lq:=O eQ;have gS:=O fa;clear eQ fa gZ;by_cases afA:128<value.size
 ·have HP:=O (show gI name value=false by unfold gI;rw[if_pos afA]);have i128:(128:Int)<(value.size:Int):=by omega
  go_enter Tryz.func207,Tryz.ntmps207;go_wp2;rw[<-lq.out];go_ret;exact⟨by rw[HP.out];rfl,gS.out⟩
 ·have HP:=O (show gI name value=if iK name.data.toList=[97,99,99,101,112,116]then Aa value
 else if iK name.data.toList=[97,99,99,101,112,116,45,108,97,110,103,117,97,103,101]then pJ value
 else if iK name.data.toList=[99,111,110,116,101,110,116,45,108,97,110,103,117,97,103,101]then pJ value
 else if iK name.data.toList=[99,111,110,116,101,110,116,45,116,121,112,101]then Aa value&&Lib.containsS lQ (Ab value)
 else false by unfold gI;rw[if_neg afA])
  have i128:¬(128:Int)<(value.size:Int):=by omega
  go_enter Tryz.func207,Tryz.ntmps207;go_wp2;rw[<-lq.out];go_loopw[3,15] (afz value wb) (fun _ i _=>value.size-(intOf i).toNat)
  case atStart=>exact⟨0,by omega,rfl,rfl,Fr.refl _ _⟩
  case round =>
   obtain⟨k,hk,rfl,rfl,aW⟩:=hrel;obtain⟨c0,c1⟩:=HC.out wr aW;by_cases cG:k<value.size
   ·have lf:(k:Int)<(value.size:Int):=by omega
    have mi:=byte_at value k cG;have jn:=O (show((value.data.toList.take (k+1)).all fun c=>!eR c)=(((value.data.toList.take k).all fun c=>!eR c)&&!eR value[k])by rw[List.take_add_one,mi,List.all_append];simp);clear mi;cases hb:(value.data.toList.take k).all fun c=>!eR c
    ·have BD:=O (show((value.data.toList.take (k+1)).all fun c=>!eR c)=false by rw[jn.out,hb];rfl);clear hb;go_wp2;go_roundw
     case rel=>exact⟨k+1,by omega,by go_num,by rw[BD.out],aW⟩
     case measure=>simp[intOf];omega
    ·have BD:=O (show((value.data.toList.take (k+1)).all fun c=>!eR c)=!eR value[k]by rw[jn.out,hb];rfl);clear hb;go_wp2_with fail
     refine(F_ value[k] _).mono ?_;rintro e u⟨rfl,rfl⟩;go_wp2;go_roundw
     case rel=>exact⟨k+1,by omega,by go_num,by rw[BD.out],aW⟩
     case measure=>simp[intOf];omega
   ·have lf:¬(k:Int)<(value.size:Int):=by omega
    rw[show((value.data.toList.take k).all fun c=>!eR c)=Aa value from by rw[List.take_of_length_le (by simp;omega)];rfl];generalize Aa value=sf at *
    go_wp2_with fail
    refine(lI name wr (by omega)).mono ?_;rintro e u1⟨rfl,bt⟩;have gV:=O (aW.trans bt);clear bt c0 c1;obtain⟨c0,c1⟩:=HC.out u1 gV.out;generalize iK name.data.toList=nl at *
    by_cases a1:nl=[97,99,99,101,112,116]
    ·subst a1;have HE:=O (show gI name value=sf by rw[HP.out,if_pos rfl]);go_wp2;go_ret;exact⟨by rw[HE.out];rfl,gS.out.trans gV.out⟩
    have HP1:=O (by have h:=HP.out;rw[if_neg a1]at h;exact h);have b1:(nl== [97,99,99,101,112,116])=false:=beq_eq_false_iff_ne.2 a1;by_cases a2:nl=[97,99,99,101,112,116,45,108,97,110,103,117,97,103,101]
    ·subst a2;have HE:=O (show gI name value=pJ value by rw[HP1.out,if_pos rfl]);clear b1 a1;go_wp2_with fail
     refine(tq value u1 hv).mono ?_;rintro e u2⟨rfl,bq⟩;go_wp2;go_ret;exact⟨by rw[HE.out];rfl,gS.out.trans (gV.out.trans bq)⟩
    have HP2:=O (by have h:=HP1.out;rw[if_neg a2]at h;exact h);have b2:(nl== [97,99,99,101,112,116,45,108,97,110,103,117,97,103,101])=false:=beq_eq_false_iff_ne.2 a2;by_cases a3:nl=[99,111,110,116,101,110,116,45,108,97,110,103,117,97,103,101]
    ·subst a3;have HE:=O (show gI name value=pJ value by rw[HP2.out,if_pos rfl]);clear b1 a1 b2 a2;go_wp2_with fail
     refine(tq value u1 hv).mono ?_;rintro e u2⟨rfl,bq⟩;go_wp2;go_ret;exact⟨by rw[HE.out];rfl,gS.out.trans (gV.out.trans bq)⟩
    have HP3:=O (by have h:=HP2.out;rw[if_neg a3]at h;exact h);have b3:(nl== [99,111,110,116,101,110,116,45,108,97,110,103,117,97,103,101])=false:=beq_eq_false_iff_ne.2 a3;by_cases a4:nl=[99,111,110,116,101,110,116,45,116,121,112,101]
    ·subst a4;have HE:=O (show gI name value=(sf&&Lib.containsS lQ (Ab value))by rw[HP3.out,if_pos rfl]);clear b1 a1 b2 a2 b3 a3;have BF:=O (show Calls Tryz.prog 69 #[.string value,.string ⟨#[59]⟩] u1 fun e w'=>(∃r f,e=.returned (.tuple #[.string (mN value 59),.string r,.bool f]))/\Fr ay u1 w' by
      by_cases hc:0<=Lib.indexByte value.data.toList 59
      ·obtain⟨i,hi⟩:∃i:Nat,Lib.indexByte value.data.toList 59=(i:Int):=⟨(Lib.indexByte value.data.toList 59).toNat,by omega⟩;have hl:i<value.size:=by
        have h:=(Lib.indexByte_some hi).1;have:=(List.getElem?_eq_some_iff.1 h).1;simpa using this
       refine(DA value 59 i u1 (by omega) hi hl).mono ?_;rintro e w'⟨rfl,n,rfl⟩;refine⟨⟨value.extract (i+1) value.size,true,?_⟩,(Fr.refl ay u1).drewN n⟩;unfold mN;rw[if_pos hc,hi];rfl
      ·refine(z_ value 59 u1 hc).mono ?_;rintro e w'⟨rfl,rfl⟩;refine⟨⟨⟨#[]⟩,false,?_⟩,Fr.refl _ _⟩;unfold mN;rw[if_neg hc])
     have hbz:(mN value 59).size<=value.size:=by
      unfold mN;split
      ·simp[ByteArray.size_extract];omega
      ·exact Nat.le_refl _
     have HKB:=O (show Ab value=⟨(iK (Lib.trimS (mN value 59).data.toList [32,9])).toArray⟩from rfl);generalize mN value 59=bv at *
     go_wp2_with fail
     refine BF.out.mono ?_;rintro e u2⟨⟨r,f,rfl⟩,bq⟩;have dk:=O (gV.out.trans bq);clear BF bq;go_wp2_with fail
     refine(mK bv ⟨#[32,9]⟩ u2 (by omega) (by decide) (by decide) (by decide)).mono ?_;rintro e u3⟨rfl,dv⟩;have dV:=O (dk.out.trans dv);clear dv;have Kw:=DB bv.data.toList [32,9];have hbs:bv.data.toList.length=bv.size:=by simp
     rw[show(⟨#[32,9]⟩:ByteArray).data.toList=[32,9]from rfl];generalize Lib.trimS bv.data.toList [32,9]=tl at *
     have SK:(⟨tl.toArray⟩:ByteArray).size<17592186044416:=by show tl.toArray.size<_;simp;omega
     go_wp2_with fail
     refine(lI ⟨tl.toArray⟩ u3 SK).mono ?_;rintro e u4⟨rfl,bT⟩;have fu:=O (dV.out.trans bT);rw[show(⟨(iK (⟨tl.toArray⟩:ByteArray).data.toList).toArray⟩:ByteArray)=Ab value from by rw[HKB.out]];clear bT Kw SK hbs;generalize Ab value=kv at *
     cases sf
     ·go_wp2;go_ret;exact⟨by rw[HE.out];rfl,gS.out.trans (Fr.trans fu.out (by repeat(first|exact Fr.refl _ _|apply Fr.alloc)))⟩
     ·have HCO:=O (Tryz.slices_Contains_string u4.heap.size 0 3 3 lQ kv (u4.alloc (.cells (lQ.map Value.string).toArray 9)) (Nat.le_of_ble_eq_true rfl) (Nat.le_of_ble_eq_true rfl) (fun j hj=>by
       have h:=af u4 (.cells (lQ.map Value.string).toArray 9);have e:(lQ.map Value.string)[j]?=some (.string (lQ.getD j ByteArray.empty)):=by rw[List.getElem?_map,List.getElem?_eq_getElem hj,List.getD_eq_getElem?_getD,List.getElem?_eq_getElem hj];rfl
       rw[Nat.zero_add];simp only[World.cell?,h];simpa using e))
      have rj:=O (show Fr ay wb (u4.alloc (.cells (lQ.map Value.string).toArray 9))from fu.out.alloc _);go_wp2_with fail
      refine HCO.out.mono ?_;rintro e u5⟨rfl,rfl⟩;rw[show lQ.take 3=lQ from rfl];go_wp2;go_ret;exact⟨by rw[HE.out];rfl,gS.out.trans rj.out⟩
    have b4:(nl== [99,111,110,116,101,110,116,45,116,121,112,101])=false:=beq_eq_false_iff_ne.2 a4;have HE:=O (show gI name value=false by rw[HP3.out,if_neg a4]);go_wp2;go_ret;exact⟨by rw[HE.out];rfl,gS.out.trans gV.out⟩
theorem cT(w:World)(t:TypeId)(ss:List ByteArray)(hl:ss.length<=maxLen):cX (w.alloc (.cells (ss.map Value.string).toArray t)) (.slice (some ⟨w.heap.size,0,none⟩) ss.length ss.length) ss:=by
 refine Or.inr ⟨w.heap.size,0,ss.length,rfl,Nat.le_refl _,hl,by simp,fun j x hj=>?_⟩;rw[Nat.zero_add];simp only[World.cell?,af];simp[hj]
def fB(ss:List ByteArray):List UInt8:=Lib.join (ss.map (·.data.toList)) [58]
def fi(Gq:Bool)(ss:List ByteArray):ByteArray:=if Gq then⟨(D0 (fB ss)).toArray⟩else⟨(DX (fB ss)).toArray⟩
theorem Uj(l:List UInt8):(DX l).length=32:=by unfold DX jO;rw[xP,jr];rfl
theorem Uk(l:List UInt8):(D0 l).length=64:=by unfold D0 jO;rw[xP,jr];rfl
theorem gl(Gq:Bool)(ss:List ByteArray):(fi Gq ss).size<=64:=by
 unfold fi;cases Gq
 ·show(DX _).toArray.size<=64;simp[Uj]
 ·show(D0 _).toArray.size<=64;simp[Uk]
def ni(cH:Int)(w:World):Prop:=∀(v:Value) (ss:List ByteArray) (W:World),Fr ay w W->cX W v ss->ss.length<=100000->(fB ss).length<=100000 ->
  Calls Tryz.prog 101 #[.int .i64 cH,v] W fun e w'=>e=.returned (.string (fi (decide (cH=3)) ss))/\Fr ay W w'
theorem ni.fr{cH:Int}{w w':World}(h:ni cH w)(hf:Fr ay w w'):ni cH w':=fun v ss W hW=>h v ss W (hf.trans hW)
theorem D1(v:Value)(ss:List ByteArray)(w:World)(hv:cX w v ss)(hn:ss.length<=100000)(hlen:(fB ss).length<=100000) :
  Calls Tryz.prog 143 #[v,.string ⟨#[58]⟩] w fun e w'=>e=.returned (.string ⟨(fB ss).toArray⟩)/\Fr ay w w':=by
 rcases hv with ⟨a,c,rfl,rfl,_⟩|⟨bk,o,c,rfl,h1,h2,h3,h4⟩
 ·exact(Tryz.strings_Join_none _ _ _ _).mono (by rintro e w1 ⟨rfl,rfl⟩;exact⟨rfl,Fr.refl _ _⟩)
 ·exact(Tryz.strings_Join bk o c ss ⟨#[58]⟩ w h4 h3 (by omega) h1 (by unfold fB at hlen;show(Lib.join _ [58]).length<=_;omega)).mono (by rintro e w1 ⟨rfl,hb⟩;exact⟨rfl,Fr.gW hb⟩)
theorem Ul(cH:Int)(h3:cH≠3)(w:World)(ht:kX w):ni cH w:=by
 intro v ss W hW hv hn hlen;have hT:=O (ht.fr hW);clear ht;have HJ:=O (D1 v ss W hv hn hlen);clear hv;have hz:(⟨(fB ss).toArray⟩:ByteArray).size<4398046511104:=by show(fB ss).toArray.size<_;simp;omega
 have HB:=O (show fi (decide (cH=3)) ss=⟨(DX (fB ss)).toArray⟩from by rw[decide_eq_false h3];rfl);generalize fB ss=tx at *
 clear hW;go_enter Tryz.func101,Tryz.ntmps101;go_wp2_with fail
 refine HJ.out.mono ?_;rintro e u1⟨rfl,bt⟩;go_wp2_with fail
 refine(Ug ⟨tx.toArray⟩ u1 hz (hT.out.fr bt)).mono ?_;rintro e u2⟨rfl,bq⟩;go_wp2;go_ret;exact⟨(congrArg (fun b=>Ending.returned (.string b)) HB.out).symm,bt.trans bq⟩
theorem Js{P:Program}{W:World}{x:String×DataW Unit}:∀ {laid:List (String×DataW Unit)},laidMet P laid W->x∈laid->∃r,laidMet P (x :: r) W
 |y :: l,h,hm=>by
  rcases List.mem_cons.1 hm with rfl|hm
  ·exact⟨l,h⟩
  ·exact Js (laidMet.tail h) hm
theorem lV{P:Program}{W:World}{laid:List (String×DataW Unit)}{name:String}{k:IntKind}{zs:List Int}{g:Nat}{t e:TypeId}{n:Nat}
  (h:laidMet P laid W)(hm:(name,Lib.tabData k zs)∈laid)
  (hg:P.globalNamed name=some g)(MY:(P.globals[g]?).map (·.type)=some t)(ht:P.underlying t=some (.array n e))(he:P.underlying e=some (.int k))(hce:P.cellsOf e=1)(hct:P.cellsOf t=n):Lib.TabIs P W name k zs:=by
 obtain⟨r,hr⟩:=Js h hm;exact Lib.tabIs_of_head hg MY ht he hce hct hr
theorem Um{w:World}{g i:Nat}{v:Value}(h:w.cell? ⟨g,i,none⟩=some v):g<w.heap.size:=by
 cases hb:w.heap[g]? with
 |none=>simp[World.cell?,hb]at h
 |some o=>exact aj hb
theorem pX{P:Program}{W:World}{name:String}{k:IntKind}{zs:List Int}{g:Nat}(hT:Lib.TabIs P W name k zs)(hg:P.globalNamed name=some g)(hz:0<zs.length):iu W g k zs:=by
 have hc:∀(i:Nat) z,zs[i]?=some z->W.cell? ⟨g,i,none⟩=some (.int k z):=fun i z hi=>by
  obtain⟨hl,he⟩:=List.getElem?_eq_some_iff.1 hi;rw[hT.cell hg i hl,List.getD_eq_getElem?_getD,hi];rfl
 exact⟨Um (hc 0 _ (List.getElem?_eq_getElem hz)),hc⟩
theorem mR{W:World}{laid:List (String×DataW Unit)}(h:laidMet Tryz.prog laid W)(hm:("gatepost/api.Sines",Lib.tabData .u32 xY)∈laid/\("gatepost/sum.turns",Lib.tabData .i64 (jP.map Int.ofNat))∈laid):kX W :=
 ⟨pX (lV h hm.1 (g:=3) (by kernel_rfl) (by kernel_rfl) Tryz.underlying256 Tryz.underlying253 (by kernel_rfl) (by kernel_rfl)) (by kernel_rfl) (by decide),
  pX (lV h hm.2 (g:=4) (by kernel_rfl) (by kernel_rfl) Tryz.underlying262 Tryz.underlying3 (by kernel_rfl) (by kernel_rfl)) (by kernel_rfl) (by decide)⟩
theorem mS{W:World}{laid:List (String×DataW Unit)}(h:laidMet Tryz.prog laid W)(hm:("gatepost/api.Roots",Lib.tabData .u32 yc)∈laid/\("gatepost/api.Begin",Lib.tabData .u32 N9)∈laid):kZ W :=
 ⟨pX (lV h hm.1 (g:=2) (by kernel_rfl) (by kernel_rfl) Tryz.underlying256 Tryz.underlying253 (by kernel_rfl) (by kernel_rfl)) (by kernel_rfl) (by decide),
  pX (lV h hm.2 (g:=1) (by kernel_rfl) (by kernel_rfl) Tryz.underlying254 Tryz.underlying253 (by kernel_rfl) (by kernel_rfl)) (by kernel_rfl) (by decide)⟩
end Go.Proofs.YtjdmjbdkdmbaiaaGreatDoor
