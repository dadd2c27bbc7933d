/- Token3, UrlPure, Write, RowS, Hex. -/
import Derived.Test.YtjdmjbdkdmbaiaaGreatDoorPk3
import Derived.Lib.Atoi
import Derived.Deep.MidRow
set_option maxRecDepth 100000
set_option maxHeartbeats 16000000
set_option linter.unusedSimpArgs false
namespace Go.Proofs.YtjdmjbdkdmbaiaaGreatDoor
open Go.RowKit
def pq:List UInt8->Option (List UInt8×List UInt8)
 |[]=>none
 |x :: r =>
  if x==34 then some ([],r)
  else if x==92 then
   match r with
   |[]=>none
   |y :: r'=>if iL y then(pq r').map (fun p=>(y :: p.1,p.2))else none
  else if iL x then(pq r).map (fun p=>(x :: p.1,p.2))else none
def mZ(l:List UInt8)(k:Nat)(a:List UInt8):Option (List UInt8×Nat):=(pq (l.drop k)).map (fun p=>(a++p.1,l.length-p.2.length))
theorem Nl{l:List UInt8}{k:Nat}{a:List UInt8}(h:l[k]?=none):mZ l k a=none:=by
 unfold mZ;rw[C5 h];simp[pq]
theorem Kj{l:List UInt8}{k:Nat}{a:List UInt8}(h:l[k]?=some 34):mZ l k a=some (a,k+1):=by
 have hk:=(List.getElem?_eq_some_iff.1 h).1;unfold mZ;rw[drop_at h,pq.eq_def];simp;omega
theorem Kk{l:List UInt8}{k:Nat}{a:List UInt8}{x:UInt8}(h:l[k]?=some x)(h1:(x==34)=false)(h2:(x==92)=false)(h3:iL x=true):mZ l k a=mZ l (k+1) (a++[x]):=by
 unfold mZ;rw[drop_at h];rw[pq.eq_def];simp only[h1,h2,h3,Bool.false_eq_true,if_false,if_true];cases pq (l.drop (k+1))<;>simp
theorem Nn{l:List UInt8}{k:Nat}{a:List UInt8}{x:UInt8}(h:l[k]?=some x)(h1:(x==34)=false)(h2:(x==92)=false)(h3:iL x=false):mZ l k a=none:=by
 unfold mZ;rw[drop_at h];rw[pq.eq_def];simp only[h1,h2,h3,Bool.false_eq_true,if_false,Option.map_none]
theorem Kl{l:List UInt8}{k:Nat}{a:List UInt8}(h:l[k]?=some 92)(h1:l[k+1]?=none):mZ l k a=none:=by
 unfold mZ;rw[drop_at h,C5 h1,pq.eq_def];simp
theorem Np{l:List UInt8}{k:Nat}{a:List UInt8}{y:UInt8}(h:l[k]?=some 92)(h1:l[k+1]?=some y)(h3:iL y=true):mZ l k a=mZ l (k+2) (a++[y]):=by
 unfold mZ;rw[drop_at h,drop_at h1];rw[pq.eq_def];simp only[show((92:UInt8)==34)=false from rfl,show((92:UInt8)==92)=true from rfl,h3,Bool.false_eq_true,if_false,if_true];cases pq (l.drop (k+1+1))<;>simp
theorem Dl{l:List UInt8}{k:Nat}{a:List UInt8}{y:UInt8}(h:l[k]?=some 92)(h1:l[k+1]?=some y)(h3:iL y=false):mZ l k a=none:=by
 unfold mZ;rw[drop_at h,drop_at h1];rw[pq.eq_def];simp only[show((92:UInt8)==34)=false from rfl,show((92:UInt8)==92)=true from rfl,h3,Bool.false_eq_true,if_false,if_true,Option.map_none]
def dm(l:List UInt8)(i:Nat):Option (List UInt8×Nat):=if l[i]?=some 34 then mZ l (i+1) []else none
def kj(l:List UInt8)(i:Nat):Nat:=match dm l i with|some p=>p.2|none=>i
def jc(l:List UInt8)(i:Nat):List UInt8:=match dm l i with|some p=>p.1|none=>[]
def dD(b:Nat)(s:ByteArray)(i:Nat)(w:World)(e:Ending)(w':World):Prop :=
 e=.returned (.tuple #[.string ⟨(jc s.data.toList i).toArray⟩,.bool (dm s.data.toList i).isSome])/\aU w' b s (kj s.data.toList i)/\Fr (one b) w w'
theorem dD.none{b i:Nat}{s:ByteArray}{w w':World}(h:dm s.data.toList i=none)(hc:aU w' b s i)(hf:Fr (one b) w w') :
  dD b s i w (.returned (.tuple #[.string ⟨#[]⟩,.bool false])) w':=by
 refine⟨?_,?_,hf⟩
 ·simp[jc,h]
 ·simpa[kj,h]using hc
theorem dD.some{b i j:Nat}{s:ByteArray}{w w':World}{a:List UInt8}(h:dm s.data.toList i=some (a,j))(hc:aU w' b s j)(hf:Fr (one b) w w') :
  dD b s i w (.returned (.tuple #[.string ⟨a.toArray⟩,.bool true])) w':=by
 refine⟨?_,?_,hf⟩
 ·simp[jc,h]
 ·simpa[kj,h]using hc
def afp(b:Nat)(s:ByteArray)(i:Nat)(w:World)(v:Value)(wr:World):Prop :=
 ∃k a,k<=s.size/\a.length<=k/\aU wr b s k/\Bytes w.heap.size wr v a/\Fr (one b) w wr/\dm s.data.toList i=mZ s.data.toList k a
theorem Nq{b i k j:Nat}{s:ByteArray}{w wr wx w2:World}{v v':Value}{a l:List UInt8}(pD:b<w.heap.size)(hcx:aU wx b s j)(Dm:Fr (one b) w wx)(hg:wx.grownBy w2 v.ownBlock)
  (a_:Bytes w.heap.size wr v a)(bV:Bytes w.heap.size w2 v' l)(hj:j<=s.size)(hl:l.length<=j)(o8:dm s.data.toList i=mZ s.data.toList j l)(hkj:k<j)(mA:ki wr b=k) :
  afp b s i w v' w2/\s.size-ki w2 b<s.size-ki wr b:=by
 have hv:=a_.block;have nW:aU w2 b s j:=by
  unfold aU at hcx ⊢;rw[hg.block b (aj hcx) (fun e=>by have:=hv b e.symm;omega)];exact hcx
 refine⟨⟨j,l,hj,hl,nW,bV,Dm.grown hg (fun k hk hs=>by have:=hv k hk;omega),o8⟩,?_⟩;rw[mA,nW.pos];omega
theorem FY(b:Nat)(s:ByteArray)(i:Nat)(w:World)(h:aU w b s i)(hs:s.size<70368744177664) :
  Calls Tryz.prog 89 #[.pointer (some ⟨b,0,none⟩)] w (dD b s i w):=by
 have h0:=h.cell0;have h1:=h.dM;have hm:s.size<=maxLen:=by unfold maxLen;omega
 cases e1:eT s i 34
 ·have hq:=O (show dm s.data.toList i=none by unfold dm;rw[if_neg (by simpa[eT]using e1)]);go_enter Tryz.func89,Tryz.ntmps89;go_wp2_with fail
  refine(kF b s i 34 w h hm).mono ?_;rintro e w1⟨rfl,kS,bt⟩;rw[kh e1]at kS;rw[e1];clear e1 h0 h1;have c0:=kS.cell0;have c1:=kS.dM;have cf:=kS.free 1;have TD:=kS.cR;go_wp2;refine wp_loop_rounds 1 ?_;rw[rounds_succ];go_wp2;go_quiet (fail);go_wp2;go_ret2
  exact dD.none hq.out (dt.at (j:=i) (by repeat(first|exact TD|apply dt.set|apply dt.drewN))) (by repeat(first|exact bt|apply Fr.drewN|apply Fr.one_cell))
 ·have hq:=O (show dm s.data.toList i=mZ s.data.toList (i+1) []by unfold dm;rw[if_pos (by simpa[eT]using e1)]);have Nr:i+1<=s.size:=by
   have:s.data.toList[i]?=some 34:=by simpa[eT]using e1
   have:=(List.getElem?_eq_some_iff.1 this).1;have h2:i<s.size:=by simpa using this
   omega
  go_enter Tryz.func89,Tryz.ntmps89;go_wp2_with fail
  refine(kF b s i 34 w h hm).mono ?_;rintro e w1⟨rfl,kS,bt⟩;rw[kg e1]at kS;rw[e1];clear e1 h0 h1;go_wp2;go_loopw[5] (afp b s i w) (fun _ wr=>s.size-ki wr b)
  case atStart=>exact⟨i+1,[],Nr,by simp,kS,Bytes.nil _ _,bt,hq.out⟩
  case round =>
   rename_i v wr;obtain⟨k,a,hk,ha,hc,a_,aW,o8⟩:=hrel;have di:=O o8;clear o8;have c0:=hc.cell0;have c1:=hc.dM;have cf:=hc.free 1;have TD:=hc.cR;have mA:=O hc.pos;obtain⟨av,cv,hv⟩:=a_.form;subst hv;have hbB:b<w.heap.size:=h.lt;have vH:∀n u,(convert 159 9 (.slice av a.length cv)).run Tryz.prog ((wr.drewN n).setCell ⟨b,1,none⟩ u)=.ok (.string ⟨a.toArray⟩) ((wr.drewN n).setCell ⟨b,1,none⟩ u):=fun n u =>
    Bytes.text (Bytes.setCell (p:=⟨b,1,none⟩) hbB (Bytes.drewN a_))
   have pD:b<w.heap.size:=h.lt;have eI:w.heap.size<=wr.heap.size:=aW.size;by_cases cG:k<s.size
   ·have hd:decide (k<s.size)=true:=by simp[cG]
    have bC:=O (byte_at s k cG);generalize hx:s[k]=x at bC;cases e1:x==34
    ·have n1:((x.toNat:Int)==34)=false:=by rw[<-e1];exact oP 34 (by decide)
     cases e2:x==92
     ·have n2:((x.toNat:Int)==92)=false:=by rw[<-e2];exact oP 92 (by decide)
      cases e3:iL x
      ·have bR:=O (show dm s.data.toList i=none by rw[di.out,Nn bC.out e1 e2 e3]);clear e1 e2;go_wp2;go_quiet (fail);go_wp2;go_quiet (fail);go_wp2;go_quiet (fail);go_wp2_with (go_at_call 156;refine(kE _ _).mono ?_;rintro e w' ⟨rfl,rfl⟩)
       go_ret2;exact dD.none bR.out (dt.at (j:=i) (by repeat(first|exact TD|apply dt.set|apply dt.drewN))) (by repeat(first|exact aW|apply Fr.drewN|apply Fr.one_cell))
      ·have kT:=O (di.out.trans (Kk (a:=a) bC.out e1 e2 e3));clear e1 e2;go_wp2;go_quiet (fail);go_wp2;go_quiet (fail);go_wp2;go_quiet (fail)
       go_wp2_with (first|(at_builtin;go_must(refine eS rfl _ _ rfl w.heap.size (.slice av a.length cv) a rfl (by repeat(first|exact a_|apply Bytes.alloc|apply Bytes.setCell (p:=⟨b,1,none⟩) hbB|apply Bytes.drewN|apply Bytes.drew)) ⟨wr.heap.size,0,none⟩ 1 x rfl (by rw[World.cell?_alloc_at _ _ _ _ (by simp)];rfl) (by omega) (by simp;omega) ?_);intro v' w2 bV wG)|(go_at_call 156;refine(kE _ _).mono ?_;rintro e w' ⟨rfl,rfl⟩))
       exact Nq pD (by repeat(first|exact dt.at (j:=k+1) (by repeat(first|exact TD|apply dt.set|apply dt.drewN))|apply aU.alloc|apply aU.drewN)) (by repeat(first|exact aW|apply Fr.drewN|apply Fr.one_cell|apply Fr.alloc)) wG a_ bV (by omega) (by simp;omega) kT.out (Nat.lt_succ_self k) mA.out
     ·have am0:x=92:=by simpa using e2
      clear e1 e2;subst am0;by_cases gZ:k+1<s.size
      ·have zl:decide ((k:Int)+1<(s.size:Int))=true:=by simp;omega
       have YT:=O (byte_at s (k+1) gZ);generalize hy:s[k+1]=y at YT;cases e3:iL y
       ·have bR:=O (show dm s.data.toList i=none by rw[di.out,Dl bC.out YT.out e3]);go_wp2;go_quiet (fail);go_wp2;go_quiet (fail);go_wp2;go_quiet (fail);go_wp2;go_quiet (fail);go_wp2_with (go_at_call 156;refine(kE _ _).mono ?_;rintro e w' ⟨rfl,rfl⟩)
        go_ret2;exact dD.none bR.out (dt.at (j:=i) (by repeat(first|exact TD|apply dt.set|apply dt.drewN))) (by repeat(first|exact aW|apply Fr.drewN|apply Fr.one_cell|apply Fr.alloc))
       ·have kT:=O (di.out.trans (Np (a:=a) bC.out YT.out e3));go_wp2;go_quiet (fail);go_wp2;go_quiet (fail);go_wp2;go_quiet (fail);go_wp2;go_quiet (fail)
        go_wp2_with (first|(at_builtin;go_must(refine eS rfl _ _ rfl w.heap.size (.slice av a.length cv) a rfl (by repeat(first|exact a_|apply Bytes.alloc|apply Bytes.setCell (p:=⟨b,1,none⟩) hbB|apply Bytes.drewN|apply Bytes.drew)) ⟨wr.heap.size,0,none⟩ 1 y rfl (by rw[World.cell?_alloc_at _ _ _ _ (by simp)];rfl) (by omega) (by simp;omega) ?_);intro v' w2 bV wG)|(go_at_call 156;refine(kE _ _).mono ?_;rintro e w' ⟨rfl,rfl⟩))
        exact Nq pD (by repeat(first|exact dt.at (j:=k+1+1) (by repeat(first|exact TD|apply dt.set|apply dt.drewN))|apply aU.alloc|apply aU.drewN)) (by repeat(first|exact aW|apply Fr.drewN|apply Fr.one_cell|apply Fr.alloc)) wG a_ bV (by omega) (by simp;omega) kT.out (by omega) mA.out
      ·have zl:decide ((k:Int)+1<(s.size:Int))=false:=by simp;omega
       have bR:=O (show dm s.data.toList i=none by rw[di.out,Kl bC.out (ny s (k+1) gZ)]);go_wp2;go_quiet (fail);go_wp2;go_quiet (fail);go_wp2;go_quiet (fail);go_wp2;go_ret2;exact dD.none bR.out (dt.at (j:=i) (by repeat(first|exact TD|apply dt.set|apply dt.drewN))) (by repeat(first|exact aW|apply Fr.drewN|apply Fr.one_cell|apply Fr.alloc))
    ·have n1:((x.toNat:Int)==34)=true:=by rw[<-e1];exact oP 34 (by decide)
     have bR:=O (show dm s.data.toList i=some (a,k+1)by rw[di.out,Kj (by rw[bC.out];simpa using e1)]);clear e1;go_wp2;go_quiet (fail);go_wp2;go_quiet (fail);go_wp2;go_ret2;exact dD.some bR.out (dt.at (j:=k+1) (by repeat(first|exact TD|apply dt.set|apply dt.drewN))) (by repeat(first|exact aW|apply Fr.drewN|apply Fr.one_cell))
   ·have hd:decide (k<s.size)=false:=by simp;omega
    have bR:=O (show dm s.data.toList i=none by rw[di.out,Nl (ny s k cG)]);go_wp2;go_quiet (fail);go_wp2;go_ret2;exact dD.none bR.out (dt.at (j:=i) (by repeat(first|exact TD|apply dt.set|apply dt.drewN))) (by repeat(first|exact aW|apply Fr.drewN|apply Fr.one_cell))
def hQ(c:UInt8):List UInt8->List UInt8×List UInt8×Bool
 |[]=>([],[],false)
 |x :: l=>if x=c then([],l,true)else(x :: (hQ c l).1,(hQ c l).2.1,(hQ c l).2.2)
theorem Du(c:UInt8):∀(a b:List UInt8),c∉a->hQ c (a++c :: b)=(a,b,true)
 |[],b,_=>by simp[hQ]
 |x :: a,b,h=>by
  have hx:¬x=c:=fun e=>h (by rw[e];exact List.mem_cons_self ..);rw[List.cons_append,hQ,if_neg hx,Du c a b (fun e=>h (List.mem_cons_of_mem _ e))]
theorem zY(c:UInt8):∀(a:List UInt8),c∉a->hQ c a=(a,[],false)
 |[],_=>rfl
 |x :: a,h=>by
  have hx:¬x=c:=fun e=>h (by rw[e];exact List.mem_cons_self ..);rw[hQ,if_neg hx,zY c a (fun e=>h (List.mem_cons_of_mem _ e))]
theorem IX(c:UInt8):∀l:List UInt8,c∉(hQ c l).1/\(((hQ c l).2.2=true/\l=(hQ c l).1++c :: (hQ c l).2.1)\/((hQ c l).2.2=false/\l=(hQ c l).1/\(hQ c l).2.1=[]))
 |[]=>⟨by simp[hQ],Or.inr ⟨rfl,rfl,rfl⟩⟩
 |x :: l=>by
  have ih:=IX c l;unfold hQ;split
  ·rename_i h;exact⟨by simp,Or.inl ⟨rfl,by rw[h];rfl⟩⟩
  ·rename_i h;refine⟨fun e=>?_,?_⟩
   ·rcases List.mem_cons.1 e with e|e
    ·exact h e.symm
    ·exact ih.1 e
   ·rcases ih.2 with ⟨h1,h2⟩|⟨h1,h2,h3⟩
    ·exact Or.inl ⟨h1,by rw[List.cons_append, <-h2]⟩
    ·exact Or.inr ⟨h1,by rw[<-h2],h3⟩
def Dv(c:UInt8):Bool:=decide (97<=c.toNat/\c.toNat<=122)||decide (48<=c.toNat/\c.toNat<=57)||decide (c.toNat=45)
def xy(l:List UInt8):Bool:=!l.isEmpty&&!(l.head?==some 45)&&!(l.getLast?==some 45)&&l.all Dv
def IY(l:List UInt8):Bool:=decide (l.length<=60)&&(bD 46 l).all xy
def xz(s:Bool):Int:=if s then 443 else 80
structure YY where
 ae:Bool
 host:List UInt8
 port:Int
def YZ(o:YY):Bool:=IY o.host&&(decide (1<=o.port)&&decide (o.port<=65535))
def afw:List UInt8:=[104,116,116,112,58,47,47]
def Y0:List UInt8:=[104,116,116,112,115,58,47,47]
def Wv(s:Bool):List UInt8:=if s then Y0 else afw
def zZ(o:YY):List UInt8:=Wv o.ae++o.host++(if o.port=xz o.ae then []else 58 :: Lib.itoa o.port)
def WE:Go.Shelf.Ren:=⟨fun|166=>93|240=>157|276=>215|n=>n,fun|70=>158|9=>9|72=>161|37=>159|164=>251|20=>20|75=>56|80=>164|5=>5|3=>3|n=>n,fun|n=>n⟩
theorem Y9:Go.Proofs.Lays.n166 Tryz.prog WE:={
 mixed:=by kernel_rfl
 f166:=Tryz.func93.trans (congrArg some (by kernel_rfl))
 f240:=Tryz.func157.trans (congrArg some (by kernel_rfl))
 f276:=Tryz.func215.trans (congrArg some (by kernel_rfl))
 t0:=Tryz.underlying0
 a0:=Tryz.isAgg0
 z0:=Tryz.sizeOf0
 v0:=Tryz.zeroValue0
 t3:=Tryz.underlying3
 a3:=Tryz.isAgg3
 z3:=Tryz.sizeOf3
 v3:=Tryz.zeroValue3
 t4:=Tryz.underlying4
 a4:=Tryz.isAgg4
 z4:=Tryz.sizeOf4
 v4:=Tryz.zeroValue4
 t9:=Tryz.underlying9
 a9:=Tryz.isAgg9
 z9:=Tryz.sizeOf9
 v9:=Tryz.zeroValue9
 t20:=Tryz.underlying20
 a20:=Tryz.isAgg20
 z20:=Tryz.sizeOf20
 v20:=Tryz.zeroValue20
 t37:=Tryz.underlying159
 a37:=Tryz.isAgg159
 z37:=Tryz.sizeOf159
 v37:=Tryz.zeroValue159
 t70:=Tryz.underlying158
 a70:=Tryz.isAgg158
 z70:=Tryz.sizeOf158
 v70:=Tryz.zeroValue158
 t72:=Tryz.underlying161
 a72:=Tryz.isAgg161
 z72:=Tryz.sizeOf161
 v72:=Tryz.zeroValue161
 t75:=Tryz.underlying56
 a75:=Tryz.isAgg56
 z75:=Tryz.sizeOf56
 v75:=Tryz.zeroValue56
 t164:=Tryz.underlying251
 a164:=Tryz.isAgg251
 z164:=Tryz.sizeOf251
 v164:=Tryz.zeroValue251}
theorem TP:Builder.Extra Tryz.prog WE:={
 sizeBuilder:=by kernel_rfl
 liesBuilder:=by kernel_rfl
 t5:=Tryz.underlying5
 a5:=Tryz.isAgg5
 z5:=Tryz.sizeOf5
 v5:=Tryz.zeroValue5
 infoByte:=by kernel_rfl
 cellsByte:=by kernel_rfl
 sizeByte:=by kernel_rfl
 neB5:=by decide}
def pM(B b:Nat)(l:List UInt8)(w:World):Prop:=Lib.IsBuilderF 161 5 B b (nT l) w
abbrev afF(b:Nat)(w w':World):Prop:=Lib.OthersKept 5 (some b) w w'
theorem BK(s:ByteArray):Lib.strCells s=nT s.data.toList:=by
 unfold Lib.strCells nT;rfl
theorem TQ(a b:List UInt8):nT (a++b)=nT a++nT b:=by unfold nT;simp
theorem bE(B b:Nat)(l:List UInt8)(s:ByteArray)(w:World)(h:pM B b l w)(hlen:l.length+s.size<=140737488355328)(Tn:B<=w.heap.size) :
  Calls Tryz.prog 93 #[.pointer (some ⟨b,0,none⟩),.string s] w fun e w'=>e=.returned (.tuple #[.int .i64 s.size,.nilIface])/\pM B b (l++s.data.toList) w'/\Below B w w'/\afF b w w':=by
 refine(Any.Builder_WriteString_k Y9 TP B b (nT l) s w h (by rw[rI];exact hlen) Tn).mono ?_;rintro e w'⟨he,hb,hw,ho⟩;refine⟨he,?_,hw,ho⟩;unfold pM;rw[TQ, <-BK];exact Or.inr hb
theorem pN(B b:Nat)(l:List UInt8)(w:World)(h:pM B b l w) :
  Calls Tryz.prog 95 #[.pointer (some ⟨b,0,none⟩)] w fun e w'=>e=.returned (.int .i64 l.length)/\w=w':=by
 refine(Tryz.Builder_Len_f B b (nT l) w h).mono ?_;rintro e w'⟨rfl,rfl⟩;exact⟨by rw[rI],rfl⟩
theorem ag{P:Program}{ops:Array Oper}{rest:List Oper}{a:Act}{w:World}{Q:Exit->Act->World->Prop}(o:Oper)(h:wpList P ops Q (o :: rest) a w):wpList P ops Q (o :: rest) a w:=h
theorem jM{P:Program}{ops:Array Oper}{a:Act}{w:World}{K:Act->World->Prop}{Q:Exit->Act->World->Prop}{E:Prop}(o:Oper)(h:if Region.wanted o (yielded ops a.tmps)=true then Oper.wp P o a w K Q else E):if Region.wanted o (yielded ops a.tmps)=true then Oper.wp P o a w K Q else E:=h
theorem uS{P:Program}{ops:Array Oper}{a:Act}{w:World}{K:Act->World->Prop}{Q:Exit->Act->World->Prop}{E:Prop}{o:Oper}(zM:o.guard=none)(f:FuncId)(args:Array Value)(rU:(execOp a.eval o).run P w=.ok (.enter f args) w){NR:Ending->World->Prop}(hc:Calls P f args w NR)
  (h:∀e w',NR e w'->∃v,e=.returned v/\K (a.put o.dst v) w'):if Region.wanted o (yielded ops a.tmps)=true then Oper.wp P o a w K Q else E:=by
 have hw:Region.wanted o (yielded ops a.tmps)=true:=by simp[Region.wanted,zM]
 rw[if_pos hw];unfold Oper.wp;rw[rU,Oper.upon_enter];refine hc.mono fun e w' hh=>?_;obtain⟨v,rfl,hk⟩:=h e w' hh;exact hk
theorem tC(w:World)(vT cells:Array Value)(t:TypeId):(w.alloc (.cells vT t)).setRow w.heap.size cells=w.alloc (.cells cells t):=by
 unfold World.setRow World.alloc
 congr 1
 apply Array.ext
 ·simp
 ·intro k h1 h2;simp only[Array.getElem_modify];by_cases hk:w.heap.size=k
  ·subst hk;simp
  ·have:k<w.heap.size:=by simp at h2;omega
   simp[hk,Array.getElem_push,this]
theorem ks{P:Program}{ops:Array Oper}{rest:List Oper}{o:Oper}{a:Act}{w:World}{Q:Exit->Act->World->Prop}(zM:o.guard=none)(ty:TypeId)(x y:Operand)(ho:o.op=.store ty x y)(vT:Array Value)
  (cells:Array Value)(hx:a.eval x=.pointer (some ⟨w.heap.size,0,none⟩))(hy:a.eval y=.agg cells)
  (hi:(P.info? ty).map (·.size)=some cells.size)(hold:vT.size=cells.size)(h1:cells.all (·.oneCell')=true)
  (h:wpList P ops Q rest (a.put o.dst undef) (w.alloc (.cells cells ty))):wpList P ops Q (o :: rest) a (w.alloc (.cells vT ty)):=by
 refine wpList_store_row zM ty x y ho w.heap.size cells hx hy ty vT (af w _) hi hold h1 ?_;rw[tC];exact h
theorem run_storeCells_new{P:Program}(w:World)(t:TypeId)(vT:Array Value)(x:List Value)(hold:vT.size=x.length)(h1:∀u∈x,u.oneCell'=true) :
  Sem.run P (storeCells ⟨w.heap.size,0,none⟩ x 0) (w.alloc (.cells vT t))=.ok () (w.alloc (.cells x.toArray t)):=by
 have h:=run_storeCells_from (P:=P) w.heap.size t x 0 vT (w.alloc (.cells vT t)) (af w _) (by omega) h1;rw[h,List.take_zero,List.nil_append,tC]
theorem aP{w:World}{b:Nat}{cur:Array Value}{t:TypeId}{f:Nat×Nat}(h:w.heap[b]?=some (.cells cur t f))(o:Nat)(v:Value):(w.setCell ⟨b,o,none⟩ v).heap[b]?=some (.cells (cur.setIfInBounds o v) t f):=by
 simp[World.setCell,Array.getElem?_modify,h]
theorem nd{w:World}{b g:Nat}(hg:g≠b)(o:Nat)(v:Value):(w.setCell ⟨b,o,none⟩ v).heap[g]?=w.heap[g]?:=Below.heap_setCell _ _ _ _ hg
theorem kC{b:Nat}{t:TypeId}{f:Nat×Nat}:∀(vs:List Value) (o:Nat) (w:World) (cur:Array Value),w.heap[b]?=some (.cells cur t f)->o+vs.length<=cur.size ->
  (w.setCells b o vs).heap[b]?=some (.cells (cur.toList.take o++vs++cur.toList.drop (o+vs.length)).toArray t f)
 |[],o,w,cur,h,hl=>by
  rw[World.setCells,h];simp
 |v :: r,o,w,cur,h,hl=>by
  simp only[List.length_cons]at hl;rw[World.setCells,kC r (o+1) _ _ (aP h o v) (by simp;omega)]
  congr 3
  simp only[Array.toList_setIfInBounds,List.length_cons];have h1:(cur.toList.set o v).take (o+1)=cur.toList.take o++[v]:=by
   have pD:o<cur.toList.length:=by simp;omega
   rw[List.take_add_one,List.getElem?_set_self pD,List.take_set_of_le (Nat.le_refl o)];rfl
  have h2:(cur.toList.set o v).drop (o+1+r.length)=cur.toList.drop (o+(r.length+1)):=by
   rw[List.drop_set_of_lt (by omega)]
   congr 1;omega
  rw[h1,h2];simp
theorem Fr.setCells{S:Nat->Prop}{a w:World}(h:Fr S a w){b:Nat}(hb:b<a.heap.size->S b):∀(vs:List Value) (o:Nat),Fr S a (w.setCells b o vs):=by
 intro vs
 induction vs generalizing w with
 |nil=>intro o;exact h
 |cons v r ih=>intro o;exact ih (h.setCell (p:=⟨b,o,none⟩) hb v) (o+1)
theorem rq:∀(y:List Value) (i:Nat) (z:Array Value),i+y.length<=z.size->List.foldl (fun cs x=>cs.setIfInBounds x.snd x.fst) z (y.zipIdx i)=(z.toList.take i++y++z.toList.drop (i+y.length)).toArray
 |[],i,z,_=>by simp
 |v :: r,i,z,hl=>by
  simp only[List.length_cons]at hl;rw[List.zipIdx_cons,List.foldl_cons,rq r (i+1) _ (by simp;omega)]
  congr 1
  simp only[Array.toList_setIfInBounds,List.length_cons];have h1:(z.toList.set i v).take (i+1)=z.toList.take i++[v]:=by
   have pD:i<z.toList.length:=by simp;omega
   rw[List.take_add_one,List.getElem?_set_self pD,List.take_set_of_le (Nat.le_refl i)];rfl
  have h2:(z.toList.set i v).drop (i+1+r.length)=z.toList.drop (i+(r.length+1)):=by
   rw[List.drop_set_of_lt (by omega)]
   congr 1;omega
  rw[h1,h2];simp
theorem tD(y:List Value)(z:Array Value)(h:z.size=y.length):List.foldl (fun cs x=>cs.setIfInBounds x.snd x.fst) z y.zipIdx=y.toArray:=by
 rw[rq y 0 z (by omega),List.take_zero,List.nil_append,List.drop_eq_nil_of_le (by simp;omega),List.append_nil]
theorem vU{k:Nat}:∀ {xs:List (List Value)} (_:∀x∈xs,x.length=k) {i:Nat} {y:List Value} (_:i<xs.length),(xs.set i y).flatten=xs.flatten.take (i*k)++y++xs.flatten.drop (i*k+k)
 |[],_,i,y,hi=>absurd hi (Nat.not_lt_zero _)
 |x :: xs,hl,0,y,hi=>by
  have hx:=hl x (by simp);simp only[List.set_cons_zero,List.flatten_cons,Nat.zero_mul,List.take_zero,List.nil_append,Nat.zero_add];rw[List.drop_append_of_le_length (by omega),List.drop_eq_nil_of_le (by omega)];simp
 |x :: xs,hl,i+1,y,hi=>by
  have hx:=hl x (by simp);have ih:=vU (k:=k) (xs:=xs) (fun z hz=>hl z (List.mem_cons_of_mem _ hz)) (i:=i) (y:=y) (by simpa using hi);have e1:(i+1)*k=x.length+i*k:=by rw[Nat.succ_mul,hx];omega
  simp only[List.set_cons_succ,List.flatten_cons,ih,e1];rw[List.take_length_add_append,show x.length+i*k+k=x.length+(i*k+k)from by omega,List.drop_length_add_append];simp
theorem tE{k:Nat}:∀ {xs:List (List Value)} (_:∀x∈xs,x.length=k) (i:Nat),(xs.take i).flatten=xs.flatten.take (i*k)
 |[],_,i=>by simp
 |x :: xs,hl,0=>by simp
 |x :: xs,hl,i+1=>by
  have hx:=hl x (by simp);have ih:=tE (k:=k) (xs:=xs) (fun z hz=>hl z (List.mem_cons_of_mem _ hz)) i;rw[List.take_succ_cons,List.flatten_cons,ih,List.flatten_cons,show(i+1)*k=x.length+i*k from by rw[Nat.succ_mul,hx];omega,List.take_length_add_append]
theorem DK(L:List Value)(a n:Nat)(y:List Value)(ham:a+y.length<=n)(hn:n<=L.length):(L.take a++y++L.drop (a+y.length)).take n=(L.take n).take a++y++(L.take n).drop (a+y.length):=by
 have hA:(L.take a++y).length=a+y.length:=by rw[List.length_append,List.length_take];omega
 rw[List.take_append,List.take_of_length_le (by omega),hA,List.take_take,Nat.min_eq_left (by omega),List.drop_take]
theorem BL(L:List Value)(a:Nat)(y:List Value)(ham:a+y.length<=L.length):(L.take a++y++L.drop (a+y.length)).take (a+y.length)=L.take a++y:=by
 have hA:(L.take a++y).length=a+y.length:=by rw[List.length_append,List.length_take];omega
 rw[List.take_append_of_le_length (by omega),List.take_of_length_le (by omega)]
theorem OwnRows.open{base k:Nat}{e:TypeId}{w:World}{v:Value}{xs:List (List Value)}(h:OwnRows base e k w v xs){g:Nat}(hg:v.ownBlock=some g) :
  ∃cap cur,v=.slice (some ⟨g,0,none⟩) xs.length cap/\base<=g/\w.heap[g]?=some (.cells cur e (0,0))/\xs.length<=cap/\cap<=maxLen/\cur.size=cap*k/\cur.toList.take (xs.length*k)=xs.flatten:=by
 rcases h.2.2 with ⟨hv,_⟩|⟨g',cap,cur,hv,h1,h2,h3,h4,h5,h6⟩
 ·rw[hv]at hg;simp[Value.ownBlock]at hg
 ·rw[hv]at hg;simp[Value.ownBlock]at hg;subst hg;exact⟨cap,cur,hv,h1,h2,h3,h4,h5,h6⟩
theorem OwnRows.store{base k:Nat}{e:TypeId}{w:World}{v:Value}{xs:List (List Value)}(h:OwnRows base e k w v xs){i:Nat}{y:List Value}(hi:i<xs.length)(hy:y.length=k)(ze:∀u∈y,u.oneCell'=true){g:Nat}(hg:v.ownBlock=some g) :
  OwnRows base e k (w.setCells g (i*k) y) v (xs.set i y):=by
 obtain⟨cap,cur,hv,h1,h2,h3,h4,h5,h6⟩:=h.open hg;have YS:i*k+k<=xs.length*k:=by have:(i+1)*k<=xs.length*k:=Nat.mul_le_mul_right _ hi;rw[Nat.succ_mul]at this;exact this
 have hck:xs.length*k<=cap*k:=Nat.mul_le_mul_right _ h3;have WG:∀x∈xs,x.length=k:=fun x hx=>(h.1 x hx).1;have hh:=kC y (i*k) w cur h2 (by omega);have hA:(cur.toList.take (i*k)).length=i*k:=by rw[List.length_take];simp;omega
 have DL:(xs.set i y).flatten=(cur.toList.take (i*k)++y++cur.toList.drop (i*k+y.length)).take (xs.length*k):=by
  rw[vU WG hi, <-h6,DK _ _ _ _ (by omega) (by simp;omega),hy]
 refine⟨?_,?_,Or.inr ⟨g,cap,_,by rw[List.length_set];exact hv,h1,hh,by rw[List.length_set];exact h3,h4,?_,?_⟩⟩
 ·intro x hx;rcases List.mem_or_eq_of_mem_set hx with hx|rfl
  ·exact h.1 x hx
  ·exact⟨hy,ze⟩
 ·rw[DL,List.length_set,List.length_take,Nat.min_eq_left];simp;omega
 ·simp;omega
 ·rw[List.length_set,DL]
theorem OwnRows.xJ{base k:Nat}{e:TypeId}{w:World}{v:Value}{xs:List (List Value)}(h:OwnRows base e k w v xs){i:Nat}{ys:List (List Value)}(hi:i<=xs.length)(hy:∀y∈ys,y.length=k/\∀u∈y,u.oneCell'=true){g cap:Nat}
  (hg:v=.slice (some ⟨g,0,none⟩) xs.length cap)(hc:i+ys.length<=cap):OwnRows base e k (w.setCells g (i*k) ys.flatten) (.slice (some ⟨g,0,none⟩) (i+ys.length) cap) (xs.take i++ys):=by
 obtain⟨wK,cur,hv,h1,h2,h3,h4,h5,h6⟩:=h.open (g:=g) (by rw[hg];rfl);rw[hg]at hv;cases hv;have DM:ys.flatten.length=ys.length*k:=eU (fun y hm=>(hy y hm).1);have uF:cur.toList.length=cur.size:=by simp
 have YS:i*k+ys.length*k<=cap*k:=by rw[<-Nat.add_mul];exact Nat.mul_le_mul_right _ hc
 have px:i*k<=xs.length*k:=Nat.mul_le_mul_right _ hi;have hh:=kC ys.flatten (i*k) w cur h2 (by omega);have hlen:(xs.take i++ys).length=i+ys.length:=by rw[List.length_append,List.length_take];omega
 have WG:∀x∈xs,x.length=k:=fun x hx=>(h.1 x hx).1;have DL:(xs.take i++ys).flatten=(cur.toList.take (i*k)++ys.flatten++cur.toList.drop (i*k+ys.flatten.length)).take ((i+ys.length)*k):=by
  rw[Nat.add_mul, <-DM,BL _ _ _ (by rw[DM];omega),List.flatten_append,tE WG, <-h6,List.take_take,Nat.min_eq_left px]
 refine⟨?_,?_,Or.inr ⟨g,cap,_,by rw[hlen],h1,hh,by rw[hlen];exact hc,h4,?_,?_⟩⟩
 ·intro x hx;rcases List.mem_append.1 hx with hx|hx
  ·exact h.1 x (List.mem_of_mem_take hx)
  ·exact hy x hx
 ·rw[DL,hlen,List.length_take,Nat.min_eq_left];rw[List.length_append,List.length_append,List.length_take,List.length_drop,DM,Nat.add_mul];omega
 ·rw[List.size_toArray,List.length_append,List.length_append,List.length_take,List.length_drop,DM];omega
 ·rw[hlen,DL]
theorem OwnRows.cut{base k:Nat}{e:TypeId}{w:World}{v:Value}{xs:List (List Value)}(h:OwnRows base e k w v xs){i:Nat}(hi:i<=xs.length){g cap:Nat}(hg:v=.slice (some ⟨g,0,none⟩) xs.length cap):OwnRows base e k w (.slice (some ⟨g,0,none⟩) i cap) (xs.take i):=by
 obtain⟨wK,cur,hv,h1,h2,h3,h4,h5,h6⟩:=h.open (g:=g) (by rw[hg];rfl);have hc:cap=wK:=by rw[hg]at hv;cases hv;rfl
 have:=h.xJ (i:=i) (ys:=[]) hi (fun y hy=>by cases hy) hg (by simp;omega);simpa[World.setCells]using this
theorem OwnRows.behind{base k:Nat}{e:TypeId}{w:World}{v:Value}{xs:List (List Value)}(h:OwnRows base e k w v xs){o:Nat}{vs:List Value}(ho:xs.length*k<=o){g cap:Nat}
  (hg:v=.slice (some ⟨g,0,none⟩) xs.length cap)(hc:o+vs.length<=cap*k):OwnRows base e k (w.setCells g o vs) v xs:=by
 obtain⟨wK,cur,hv,h1,h2,h3,h4,h5,h6⟩:=h.open (g:=g) (by rw[hg];rfl);rw[hg]at hv;cases hv;have hh:=kC vs o w cur h2 (by omega);refine⟨h.1,h.2.1,Or.inr ⟨g,cap,_,hg,h1,hh,h3,h4,by simp;omega,?_⟩⟩;have hA:xs.length*k<=(cur.toList.take o).length:=by rw[List.length_take];simp;omega
 rw[List.append_assoc];show List.take (xs.length*k) (List.take o cur.toList++(vs++List.drop (o+vs.length) cur.toList))=_;rw[List.take_append_of_le_length hA,List.take_take,Nat.min_eq_left ho,h6]
theorem OwnRows.there{base k:Nat}{e:TypeId}{w:World}{v:Value}{xs:List (List Value)}(h:OwnRows base e k w v xs){g cap:Nat}(hg:v=.slice (some ⟨g,0,none⟩) xs.length cap){o n:Nat}(hn:o+n<=cap*k):w.there g o n:=by
 obtain⟨wK,cur,hv,h1,h2,h3,h4,h5,h6⟩:=h.open (g:=g) (by rw[hg];rfl);rw[hg]at hv;cases hv;intro j hj;constructor
 ·simp only[World.cell?,h2];rw[Array.getElem?_eq_getElem (by omega)];rfl
 ·simp[World.frozen?,h2]
theorem results_cell_tmp{P:Program}{fn:Func}{p q:Tmp}{ty:TypeId}(h:fn.results= #[.cell p ty,.tmp q])(tmps:Array Value)(w:World)(g:Nat)(t:TypeId)(cs:Array Value)(fr:Nat×Nat)(d:TypeDesc)
  (hp:tmps.getD p undef=.pointer (some ⟨g,0,none⟩))(hg:w.heap[g]?=some (.cells cs t fr))
  (hu:P.underlying ty=some d)(hd:(match d with| .struct _| .array _ _=>true|_=>false)=true)(hi:(P.info? ty).map (·.size)=some cs.size) :
  (results fn tmps).run P w=.ok (.tuple #[.agg cs,tmps.getD q undef]) w:=by
 have hp':tmps[p]?.getD undef=.pointer (some ⟨g,0,none⟩):=by simpa using hp
 simp[results,h,hp',asAddr,run_loadVar_row w g t ty cs fr d hg hu hd hi]
theorem jo(w:World)(y:List Value)(t:TypeId):∀j u,y[j]?=some u->(w.alloc (.cells y.toArray t)).cell? ((⟨w.heap.size,0,none⟩:Addr).add j)=some u:=by
 intro j u hj;have ea:(Addr.add ⟨w.heap.size,0,none⟩ j)=⟨w.heap.size,j,none⟩:=by unfold Addr.add;split<;>simp_all
 rw[ea,World.cell?_alloc_mark];simpa using hj
def xO(n:UInt8):UInt8:=if n<10 then n+48 else n+87
def rY(l:List UInt8):List UInt8:=l.flatMap fun(c:UInt8)=>[xO (c >>> 4),xO (c &&& 15)]
theorem xP(l:List UInt8):(rY l).length=2*l.length:=by
 unfold rY
 induction l with
 |nil=>rfl
 |cons c l ih=>simp at ih ⊢; omega
theorem N1(l m:List UInt8):rY (l++m)=rY l++rY m:=by unfold rY;exact List.flatMap_append
theorem KM(s:ByteArray)(k:Nat)(hk:k<s.size):rY (s.data.toList.take (k+1))=rY (s.data.toList.take k)++[xO (s[k] >>> 4),xO (s[k] &&& 15)]:=by
 rw[List.take_add_one,byte_at s k hk,N1];rfl
theorem Ji:∀n (h:n<16),(⟨#[48,49,50,51,52,53,54,55,56,57,97,98,99,100,101,102]⟩:ByteArray)[n]'h=xO n.toUInt8:=by decide
theorem anm(c:UInt8):(c.toNat/16).toUInt8=c >>> 4:=by
 apply UInt8.toNat_inj.1;have:=c.toNat_lt;simp[UInt8.toNat_shiftRight,Nat.shiftRight_eq_div_pow];omega
theorem afP(c:UInt8):(c.toNat%16).toUInt8=c &&& 15:=by
 apply UInt8.toNat_inj.1;have:=c.toNat_lt;have h:=Nat.and_two_pow_sub_one_eq_mod c.toNat 4;simp[UInt8.toNat_and]at h ⊢;omega
def Zf(w:World)(s:ByteArray)(i:Value)(wr:World):Prop :=
 ∃k:Nat,k<=s.size/\i=.int .i64 k/\Ah w.heap.size w.heap.size (rY (s.data.toList.take k)) wr/\Fr ay w wr/\w.heap.size<=wr.heap.size
theorem Jj(s:ByteArray)(w:World)(hs:s.size<4398046511104) :
  Calls Tryz.prog 249 #[.string s] w fun e w'=>e=.returned (.string ⟨(rY s.data.toList).toArray⟩)/\Fr ay w w':=by
 go_enter Tryz.func249,Tryz.ntmps249;go_wp2;go_loopw[7] (Zf w s) (fun i _=>s.size-(intOf i).toNat)
 case atStart=>exact⟨0,Nat.zero_le _,rfl,Ah.new w,(Fr.refl _ _).alloc _,by simp⟩
 case round =>
  obtain⟨k,hk,rfl,hb,hf,hz⟩:=hrel;by_cases cG:k<s.size
  ·have lf:(k:Int)<(s.size:Int):=by omega
   have SN:0<=(s[k].toNat:Int)/16/\(s[k].toNat:Int)/16<16:=by have:=s[k].toNat_lt;omega
   have hlen:(rY (s.data.toList.take k)).length<=2*k:=by rw[xP,List.length_take];omega
   go_wp2_with fail
   rw[Ji,anm];refine(eV _ _ _ _ wr hb (by omega) hz).mono ?_;rintro e w1⟨rfl,o9,bt⟩;have iy:=bt.size;go_wp2_with fail
   rw[Ji,afP];refine(eV _ _ _ _ w1 o9 (by rw[List.length_append];simp;omega) (by omega)).mono ?_;rintro e w2⟨rfl,fC,bq⟩;have gU:=bq.size;have rO:=O (KM s k cG);rw[List.append_assoc]at fC;have mj:Ah w.heap.size w.heap.size (rY (s.data.toList.take (k+1))) w2:=by rw[rO.out];exact fC
   clear hb o9 fC;go_wp2;go_roundw
   case rel=>exact⟨k+1,by omega,by go_num,mj,(hf.gC bt).gC bq,by omega⟩
   case measure=>simp[intOf];omega
  ·have lf:¬(k:Int)<(s.size:Int):=by omega
   have ng:k=s.size:=by omega
   have bR:=O (show s.data.toList.take k=s.data.toList from List.take_of_length_le (by rw[ng];exact Nat.le_refl _));go_wp2_with fail
   refine(vS _ _ _ wr hb hz).mono ?_;rintro e w1⟨rfl,bt⟩;rw[bR.out];go_wp2;go_ret;exact⟨rfl,hf.gC bt⟩
end Go.Proofs.YtjdmjbdkdmbaiaaGreatDoor
