/- Lemmas for the law's walk. -/
import Derived.Test.YtnckmcnffadjoaaGreatDoorPk4
import Derived.Deep.RegionHeld3
import Derived.StillTailTactics
set_option maxRecDepth 100000
set_option maxHeartbeats 16000000
set_option linter.unusedSimpArgs false
namespace Go.Proofs.YtnckmcnffadjoaaGreatDoor
open Go.Proofs.Tryz
open Go.RowKit
variable {w w':World} {base n c:Nat} {ss:List aj} {v:Value} {gs:List (aQ bE)} {S:dF}
def D0:List Int:=[1116352408,1899447441,3049323471,3921009573,961987163,1508970993,2453635748,2870763221,3624381080,310598401,607225278,1426881987,1925078388,2162078206,2614888103,3248222580,3835390401,4022224774,264347078,604807628,770255983,1249150122,1555081692,1996064986,2554220882,2821834349,2952996808,3210313671,3336571891,3584528711,113926993,338241895,666307205,773529912,1294757372,1396182291,1695183700,1986661051,2177026350,2456956037,2730485921,2820302411,3259730800,3345764771,3516065817,3600352804,4094571909,275423344,430227734,506948616,659060556,883997877,958139571,1322822218,1537002063,1747873779,1955562222,2024104815,2227730452,2361852424,2428436474,2756734187,3204031479,3329325298]
def U8:List Int:=[1779033703,3144134277,1013904242,2773480762,1359893119,2600822924,528734635,1541459225]
structure tP (w:World):Prop where
 r:ow w 2 .u32 D0
 b:ow w 1 .u32 U8
theorem tP.fr(h:tP w)(hf:Fr aS w w'):tP w':=⟨h.r.fr hf,h.b.fr hf⟩
def Lm(a b c:Int):Int:=bits .xor .u32 (bits .xor .u32 a b) c
def adV(x:Int):Int:=Lm (mq x 25) (mq x 14) (x/8)
def adW(y:Int):Int:=Lm (mq y 15) (mq y 13) (y/1024)
def GI(X:aH)(l:List Int)(i:Nat):Int:=if i<16 then qY false (X.drop (4*i))else(l.getD (i-16) 0+l.getD (i-7) 0+adV (l.getD (i-15) 0)+adW (l.getD (i-2) 0))%4294967296
def GJ(X:aH)(l:List Int)(i:Nat):List Int:=l++[GI X l i]
def Yp(X:aH):Nat->List Int
 |0=>[]
 |i+1=>GJ X (Yp X i) i
theorem Qo(X:aH):∀i,(Yp X i).length=i
 |0=>rfl
 |i+1=>by rw[Yp,GJ,aK,Qo X i];rfl
theorem rb(x:Int)(w:World)(j n:Nat)(h:(decide (0<j/\j<32/\n<32/\bits .and .u64 (-(j:Int)+18446744073709551616) 31=(n:Int)))=true) :
  aB 240 #[.int .u32 x,.int .i64 (-(j:Int))] w fun e w'=>e=.returned (.int .u32 (mq x n))/\w'=w:=by
 have h:=of_decide_eq_true h;exact(ZE x (-(j:Int)) n w ab ab h.2.2.2 h.2.2.1).mono fun _ _ ⟨he,hw⟩=>⟨he,hw.symm⟩
theorem anO(x:Int)(w:World):aB 240 #[.int .u32 x,.int .i64 (-7)] w fun e w'=>e=.returned (.int .u32 (mq x 25))/\w'=w:=rb x w 7 25 dw
theorem ah3(x:Int)(w:World):aB 240 #[.int .u32 x,.int .i64 (-18)] w fun e w'=>e=.returned (.int .u32 (mq x 14))/\w'=w:=rb x w 18 14 dw
theorem ah4(x:Int)(w:World):aB 240 #[.int .u32 x,.int .i64 (-17)] w fun e w'=>e=.returned (.int .u32 (mq x 15))/\w'=w:=rb x w 17 15 dw
theorem ah5(x:Int)(w:World):aB 240 #[.int .u32 x,.int .i64 (-19)] w fun e w'=>e=.returned (.int .u32 (mq x 13))/\w'=w:=rb x w 19 13 dw
theorem anP(x:Int)(w:World):aB 240 #[.int .u32 x,.int .i64 (-6)] w fun e w'=>e=.returned (.int .u32 (mq x 26))/\w'=w:=rb x w 6 26 dw
theorem ah6(x:Int)(w:World):aB 240 #[.int .u32 x,.int .i64 (-11)] w fun e w'=>e=.returned (.int .u32 (mq x 21))/\w'=w:=rb x w 11 21 dw
theorem ah7(x:Int)(w:World):aB 240 #[.int .u32 x,.int .i64 (-25)] w fun e w'=>e=.returned (.int .u32 (mq x 7))/\w'=w:=rb x w 25 7 dw
theorem anQ(x:Int)(w:World):aB 240 #[.int .u32 x,.int .i64 (-2)] w fun e w'=>e=.returned (.int .u32 (mq x 30))/\w'=w:=rb x w 2 30 dw
theorem ah8(x:Int)(w:World):aB 240 #[.int .u32 x,.int .i64 (-13)] w fun e w'=>e=.returned (.int .u32 (mq x 19))/\w'=w:=rb x w 13 19 dw
theorem ah9(x:Int)(w:World):aB 240 #[.int .u32 x,.int .i64 (-22)] w fun e w'=>e=.returned (.int .u32 (mq x 10))/\w'=w:=rb x w 22 10 dw
structure Sh where
 v0:Int
 v1:Int
 v2:Int
 v3:Int
 v4:Int
 v5:Int
 v6:Int
 v7:Int
def vR(w:World)(g:Nat)(h:Sh):Prop:=w.heap[g]?=some (.cells #[.int .u32 h.v0,.int .u32 h.v1,.int .u32 h.v2,.int .u32 h.v3,.int .u32 h.v4,.int .u32 h.v5,.int .u32 h.v6,.int .u32 h.v7] 291 (0,0))
def shP(ws:List Int)(k:Nat)(v:Sh):Int:=(v.v7+Lm (mq v.v4 26) (mq v.v4 21) (mq v.v4 7)+bits .xor .u32 (bits .and .u32 v.v4 v.v5) (bits .and .u32 (NT v.v4) v.v6)+D0.getD k 0+ws.getD k 0)%4294967296
def shQ(v:Sh):Int:=(Lm (mq v.v0 30) (mq v.v0 19) (mq v.v0 10)+Lm (bits .and .u32 v.v0 v.v1) (bits .and .u32 v.v0 v.v2) (bits .and .u32 v.v1 v.v2))%4294967296
def U9(v:Sh)(p q:Int):Sh:=⟨(p+q)%4294967296,v.v0,v.v1,v.v2,(v.v3+p)%4294967296,v.v4,v.v5,v.v6⟩
def zR(ws:List Int)(h:Sh):Nat->Sh
 |0=>h
 |k+1=>U9 (zR ws h k) (shP ws k (zR ws h k)) (shQ (zR ws h k))
def Qp(h v:Sh):Sh:=⟨(h.v0+v.v0)%4294967296,(h.v1+v.v1)%4294967296,(h.v2+v.v2)%4294967296,(h.v3+v.v3)%4294967296,(h.v4+v.v4)%4294967296,(h.v5+v.v5)%4294967296,(h.v6+v.v6)%4294967296,(h.v7+v.v7)%4294967296⟩
def zS(X:aH)(h:Sh):Sh:=Qp h (zR (Yp X 64) h 64)
def sh0:Sh:=⟨1779033703,3144134277,1013904242,2773480762,1359893119,2600822924,528734635,1541459225⟩
def Bn(T:aH):Nat->Sh
 |0=>sh0
 |k+1=>zS (T.drop (64*k)) (Bn T k)
def Sh.list(s:Sh):List Int:=[s.v0,s.v1,s.v2,s.v3,s.v4,s.v5,s.v6,s.v7]
def Ln(l:aH):aH:=oZ false (Bn (vO false l) ((vO false l).length/64)).list
def aia(T:aj)(g:Nat)(w:World)(t:Value)(wr:World):Prop:=∃k:Nat,64*k<=T.size/\t=.string (T.extract (64*k) T.size)/\vR wr g (Bn T.data.toList k)/\Fr aS w wr
def qT(w:World)(g:Nat)(l:List Int):Prop:=w.heap[g]?=some (.cells ((l++List.replicate (64-l.length) 0).map (Value.int .u32)).toArray 293 (0,0))
theorem Qx:∀l:aH,(vS l).length=(l.length+2)/3*4
 |[]=>rfl
 |[_]=>by simp[vS]
 |[_,_]=>by simp[vS]
 |a :: b :: c :: r=>by
  have ih:=Qx r;simp only[vS,List.length_cons]at ih ⊢;omega
open Go.RowKit Go.Shelf
attribute [local go_sem] Oper.semAt_some
theorem N4(s:aj)(c:UInt8)(w:World) :
  aB 155 #[.string s,.string ⟨#[c]⟩] w fun e w'=>e=.returned (.int .i64 (Lib.indexByte s.data.toList c))/\w'=w:=by
 go_enter func155,ntmps155;go_wp2_with fail
 refine(stringslite_Index_one s c w).mono ?_;rintro e w1⟨rfl,rfl⟩;go_wp2;go_ret;exact⟨rfl,rfl⟩
def Vh(w:World)(k:Nat):Nat:=match w.cell? ⟨k,0,none⟩with
 |some (.string s)=>s.size+1
 |_=>0
theorem CI(s:aj)(k n:Nat)(w:World)(hn:1<=n)(hs:s.size<100000)
  (h0:w.heap[k]?=some (.cells #[.string s] 9 (0,0)))(h1:w.heap[k+1]?=some (.cells #[.string ⟨#[46]⟩] 9 (0,0)))(h2:w.heap[k+2]?=some (.cells #[.int .i64 0] 3 (0,0))) :
  Vf Fence.wide n prog 234 #[.pointer (some ⟨k+1,0,none⟩),.pointer (some ⟨k,0,none⟩),.pointer (some ⟨k+2,0,none⟩)] (fun x:aj=>Value.string x) k (ji 46 s) w:=by
 intro l J Jx W hfW hJ hJx hY hJ0;have b0:=hfW.keep h0 id;have b1:=hfW.keep h1 id;have b2:=hfW.keep h2 id;have c0:W.cell? ⟨k,0,none⟩=some (.string s):=by simp[World.cell?,b0]
 have c1:W.cell? ⟨k+1,0,none⟩=some (.string ⟨#[46]⟩):=by simp[World.cell?,b1]
 refine callsIn_of_wp func234 rfl trivial ?_ rfl;simp only[ntmps234,aX,List.length_cons,List.length_nil,Nat.reduceAdd,Nat.reduceSub,Array.replicate_succ,Array.replicate_zero,List.push_toArray,List.append_toArray,List.nil_append,List.cons_append];gi_wp2
 gi_loopw [] (fun wr=>∃(pre:List aj) (r:aj),pre++ji 46 r=ji 46 s/\r.size<=s.size/\wr.heap[k]?=some (.cells #[.string r] 9 (0,0))/\wr.heap[k+1]?=some (.cells #[.string ⟨#[46]⟩] 9 (0,0))/\wr.heap[k+2]?=some (.cells #[.int .i64 0] 3 (0,0))/\J pre wr) (fun wr=>Vh wr k)
 case atStart=>exact⟨[],s,rfl,ay _,b0,b1,b2,hJ0⟩
 case round =>
  obtain⟨pre,r,zi,hrs,d0,d1,d2,hj⟩:=hrel;have e0:wr.cell? ⟨k,0,none⟩=some (.string r):=by simp[World.cell?,d0]
  have e1:wr.cell? ⟨k+1,0,none⟩=some (.string ⟨#[46]⟩):=by simp[World.cell?,d1]
  have e2:wr.cell? ⟨k+2,0,none⟩=some (.int .i64 0):=by simp[World.cell?,d2]
  gi_wp2_with fail
  refine⟨trivial,?_⟩;refine(callsIn_wide.2 (N4 r 46 wr)).mono ?_;rintro e u⟨rfl,rfl⟩;by_cases xu:0<=Lib.indexByte r.data.toList 46
  ·obtain⟨i,hi⟩:∃i:Nat,Lib.indexByte r.data.toList 46=(i:Int):=⟨(Lib.indexByte r.data.toList 46).toNat,ab⟩;have hil:i<r.size:=by have:=Vg hi;simpa using this
   have HPH:=O (D9 46 r i hi);rw[hi];clear hi xu;have q0:¬(i:Int)<0:=ab;have q1:(0:Int)<=(i:Int):=ab;have q2:(i:Int)<=(r.size:Int):=ab;have q3:(i:Int)+1<=(r.size:Int):=ab;have q4:(0:Int)<=(i:Int)+1:=ab;obtain⟨fn,tmps,assign,body,hy,hR⟩:=hY pre (r.extract 0 i) u hj ⟨ji 46 (r.extract (i+1) r.size),by rw[cN,List.singleton_append, <-HPH.o];exact zi⟩;gi_wp2;refine hR.mono ?_
   rintro e W3(⟨rfl,hJ3,IL⟩|⟨rfl,ya⟩)
   ·have f0:=(IL k ab ab).trans d0;have f1:=(IL (k+1) ab ab).trans d1;have f2:=(IL (k+2) ab ab).trans d2;clear e0 e1 e2 IL;have e0:W3.cell? ⟨k,0,none⟩=some (.string r):=by simp[World.cell?,f0]
    have e1:W3.cell? ⟨k+1,0,none⟩=some (.string ⟨#[46]⟩):=by simp[World.cell?,f1]
    have e3:W3.frozen? ⟨k,0,none⟩=false:=by simp[World.frozen?,f0]
    gi_wp2;have g0:(W3.setCell ⟨k,0,none⟩ (.string (r.extract (i+1) r.size))).heap[k]?=some (.cells #[.string (r.extract (i+1) r.size)] 9 (0,0)):=by simp[World.setCell,Array.getElem?_modify,f0]
    have hz:(r.extract (i+1) r.size).size=r.size-(i+1):=by rw[gI];omega
    refine⟨⟨pre++[r.extract 0 i],r.extract (i+1) r.size,by rw[cN,List.singleton_append, <-HPH.o];exact zi,ab,g0,(Below.heap_setCell _ _ _ _ aR).trans f1,(Below.heap_setCell _ _ _ _ aR).trans f2,hJ _ _ _ hJ3 ((ae (fun j=>j=k) W3).setCell (p:=⟨k,0,none⟩) (fun _=>rfl) _)⟩,?_⟩;unfold Vh;simp only[World.cell?,g0,d0];simp;omega
   ·gi_wp2;refine aW (results_none rfl _ _ _) rfl ?_;exact⟨⟨_,rfl⟩,.inr ⟨pre++[r.extract 0 i],⟨ji 46 (r.extract (i+1) r.size),by rw[cN,List.singleton_append, <-HPH.o];exact zi⟩,ya⟩⟩
  ·have HPM:=O (show pre++[r]=ji 46 s by rw[<-Cg 46 r xu];exact zi);obtain⟨fn,tmps,assign,body,hy,hR⟩:=hY pre r u hj ⟨[],by rw[dV];exact HPM.o⟩;have q0:Lib.indexByte r.data.toList 46<0:=ab;clear xu;gi_wp2;refine hR.mono ?_;rintro e W3(⟨rfl,hJ3,IL⟩|⟨rfl,ya⟩)
   ·gi_wp2;go_end0;exact⟨⟨_,rfl⟩,.inl (by rw[<-HPM.o];exact hJ3)⟩
   ·gi_wp2;go_end0;exact⟨⟨_,rfl⟩,.inr ⟨pre++[r],⟨[],by rw[dV];exact HPM.o⟩,ya⟩⟩
theorem Strs.pop{a:Addr}{x:aj}(h:Strs base w (.slice (some a) n c) (ss++[x])):Strs base w (.slice (some a) ss.length c) ss:=by
 obtain⟨h1,h2⟩:=h;rcases h2 with ⟨hv,_⟩|⟨g,cap,cur,hv,hg,hh,h3,h4,h5,h6⟩
 ·cases hv
 ·cases hv;refine⟨aR,Or.inr ⟨g,c,cur,rfl,hg,hh,?_,h4,h5,?_⟩⟩
  ·simp at h3;omega
  ·have e:(cur.toList.take (ss.length*1))=(cur.toList.take ((ss++[x]).length*1)).take ss.length:=by
    rw[kH];congr 1;simp
   rw[e,h6];simp
theorem Strs.Vi(h:Strs base w (.slice none n c) ss):ss=[]:=by
 rcases h.2 with ⟨_,hn⟩|⟨g,cap,cur,hq,_⟩
 ·exact ct hn
 ·cases hq
theorem Strs.cap{base:Nat}{w:World}{a:eO}{n c:Nat}{ss:List aj}(h:Strs base w (.slice a n c) ss):ss.length<=c:=by
 rcases h.2 with ⟨hq,hn⟩|⟨g,cap,cur,hq,_,_,h3,_⟩
 ·rw[hn];exact aL _
 ·cases hq;exact h3
theorem RM{α:Type}{l:List α}{k:Nat}{x:α}(h:l[k]?=some x):l.drop k=x :: l.drop (k+1):=by
 obtain⟨hk,e⟩:=List.getElem?_eq_some_iff.1 h;rw[cX hk,e]
theorem n_(l:List (aH))(p:aH):dT (l++[p])=dT l++[⟨p.toArray⟩]:=by unfold dT;simp
theorem fD(l:List (aH)):(dT l).length=l.length:=by unfold dT;simp
theorem zW(c:UInt8):∀l:aH,(eh c l).length<=l.length+1
 |[]=>by simp[eh]
 |x :: l=>by
  have ih:=zW c l;have hne:=xr c l;by_cases h:x=c
  ·subst h;rw[rL];simp;omega
  ·cases e:eh c l with
   |nil=>exact absurd e hne
   |cons p ps=>rw[ot h e];rw[e]at ih;simp at ih ⊢; omega
theorem D_{l:List (aH)}(h:Strs base w (.slice none n c) (dT l)):l.length=0:=by
 rw[<-fD l,Strs.Vi h];rfl
theorem Vj(l:List (aH))(p:aH)(last:Bool):(iq l p last).length<=l.length+1:=by
 have hp:(zx l).length<=l.length:=by unfold zx;split<;>simp
 unfold iq;split
 ·split<;>simp<;>omega
 ·split
  ·split<;>simp
  ·simp
theorem join_eq(l:List (aH)):Lib.join ((dT l).map (·.data.toList)) [47]=wA 47 l:=by
 have e:(dT l).map (·.data.toList)=l:=by unfold dT;rw[iv];simp[Function.comp_def]
 rw[e]
 induction l with
 |nil=>rfl
 |cons p ps ih =>
  cases ps with
  |nil=>simp[Lib.join,wA]
  |cons q qs =>
   have ih':=ih (by unfold dT;rw[iv];simp[Function.comp_def]);rw[wA, <-ih'];simp[Lib.join]
theorem RN(v:Value)(l:List (aH))(w:World)(hv:fT w v (dT l))(hn:l.length<=140737488355328)(hlen:(wA 47 l).length<=140737488355328) :
  aB 207 #[v,.string ⟨#[47]⟩] w fun e w'=>e=.returned (.string ⟨(wA 47 l).toArray⟩)/\Fr aS w w':=by
 have ej:=join_eq l;rcases hv with ⟨a,c,rfl,hs,_⟩|⟨bk,o,c,rfl,h1,h2,h3,h4⟩
 ·have hl:l=[]:=by cases l with|nil=>rfl|cons p ps=>simp[dT]at hs
  subst hl;exact(strings_Join_none _ _ _ _).mono (by rintro e w1 ⟨rfl,rfl⟩;exact⟨rfl,ae _ _⟩)
 ·refine(strings_Join bk o c (dT l) ⟨#[47]⟩ w h4 h3 (by rw[fD];exact hn) h1 (by show(Lib.join _ [47]).length<=_;rw[ej];exact hlen)).mono ?_;rintro e w1⟨rfl,hb⟩;refine⟨?_,fx hb⟩;show Ending.returned (.string ⟨(Lib.join _ [47]).toArray⟩)=_;rw[ej]
def air(s:aH)(base:Nat)(w1:World)(parts:List (aH))(v i:Value)(wr:World):Prop :=
 ∃(k:Nat) (l:List (aH)),k<=parts.length/\i=.int .i64 k/\Strs base wr v (dT l)/\l.length<=k/\qg l (parts.drop k)=mK s/\Fr aS w1 wr
theorem RO(s:aj):∃t:aj,t.data.toList=B7 s.data.toList/\t.size<=s.size+1/\(Lib.hasPrefix s.data.toList [47]=true->t=s)/\(Lib.hasPrefix s.data.toList [47]=false->t=⟨#[47]⟩++s):=by
 have hp:Lib.hasPrefix s.data.toList [47]=true↔s.data.toList.head?=some 47:=by
  cases h:s.data.toList with
  |nil=>simp[Lib.hasPrefix]
  |cons a l=>simp[Lib.hasPrefix];exact eq_comm
 cases h:Lib.hasPrefix s.data.toList [47]
 ·have h1:(⟨#[47]⟩:aj).size=1:=rfl;refine⟨⟨#[47]⟩++s,?_,by rw[jo,h1];omega,(fun e=>by cases e),fun _=>rfl⟩;unfold B7;rw[aq (fun e=>by rw[hp.2 e]at h;cases h)];simp
 ·refine⟨s,?_,ab,fun _=>rfl,(fun e=>by cases e)⟩;unfold B7;rw[az (hp.1 h)]
theorem RP(s:aH):(B7 s).length<=s.length+1:=by unfold B7;split<;>simp
theorem join_le(c:UInt8):∀ps:List (aH),(wA c ps).length<=(ps.map fun p=>p.length+1).sum
 |[]=>by simp[wA]
 |[p]=>by simp[wA]
 |p :: q :: ps=>by
  have ih:=join_le c (q :: ps);rw[wA];simp at ih ⊢;omega
theorem Lv(f:aH->Nat):∀l:List (aH),((l.dropLast).map f).sum<=(l.map f).sum
 |[]=>aR
 |[p]=>aR
 |p :: q :: ps=>by
  have ih:=Lv f (q :: ps);rw[List.dropLast_cons_of_ne_nil aR];simp at ih ⊢;omega
theorem Vk:∀(ps l:List (aH)),((qg l ps).map fun p=>p.length+1).sum<=(l.map fun p=>p.length+1).sum+(ps.map fun p=>p.length+1).sum
 |[],l=>by simp[qg]
 |p :: ps,l=>by
  have ih:=Vk ps (iq l p ps.isEmpty);have avh:((zx l).map fun p=>p.length+1).sum<=(l.map fun p=>p.length+1).sum:=by
   unfold zx;split
   ·exact Lv _ l
   ·exact ay _
  have jx:((iq l p ps.isEmpty).map fun p=>p.length+1).sum<=(l.map fun p=>p.length+1).sum+(p.length+1):=by
   unfold iq;split
   ·split
    ·simp only[bI,List.sum_append,cF,dv,List.sum_cons,List.sum_nil,List.length_nil];omega
    ·omega
   ·split
    ·split
     ·simp only[bI,List.sum_append,cF,dv,List.sum_cons,List.sum_nil,List.length_nil];omega
     ·omega
    ·simp only[bI,List.sum_append,cF,dv,List.sum_cons,List.sum_nil];omega
  show((qg (iq l p ps.isEmpty) ps).map fun p=>p.length+1).sum<=_;simp at ih jx ⊢;omega
theorem Bp(c:UInt8):∀l:aH,((eh c l).map fun p=>p.length+1).sum<=l.length+1
 |[]=>by simp[eh]
 |x :: l=>by
  have ih:=Bp c l;have hne:=xr c l;by_cases h:x=c
  ·subst h;rw[rL];simp at ih ⊢; omega
  ·cases e:eh c l with
   |nil=>exact absurd e hne
   |cons p ps=>rw[ot h e];rw[e]at ih;simp at ih ⊢; omega
theorem RQ(s:aH):(oV s).length<=s.length+2:=by
 have h1:=join_le 47 (mK s);have h2:=Vk (eh 47 (B7 s)) [];have h3:=Bp 47 (B7 s);have h4:=RP s;unfold oV;unfold mK at h1 ⊢;simp at h1 h2 h3 h4 ⊢;omega
theorem RR(s:aj)(w:World)(hs:s.size<100000) :
  aB 178 #[.string s] w fun e w'=>e=.returned (.string ⟨(oV s.data.toList).toArray⟩)/\Fr aS w w':=by
 obtain⟨t,ht,Yj,TT,P5⟩:=RO s;obtain⟨parts,D'⟩:∃parts,parts=eh 47 t.data.toList:=⟨_,rfl⟩;have Fp:parts.length<=100001:=by rw[D'];have:=zW 47 t.data.toList;simp at this;omega
 have Ys:ji 47 t=dT parts:=by rw[D'];rfl
 have HGO:=O (show qg [] parts=mK s.data.toList by rw[D',ht];rfl);have FN:=O (show(oV s.data.toList).length<=140737488355328 by have:=RQ s.data.toList;simp at this;omega);obtain⟨W,hW⟩:∃W,W=w.alloc (.cells ((ji 47 t).map Value.string).toArray 9):=⟨_,rfl⟩;have hfW:Fr aS w W:=by rw[hW];exact(ae aS w).alloc _
 have hzW:W.heap.size=w.heap.size+1:=by rw[hW];simp
 have ml:W.heap[w.heap.size]?=some (.cells ((ji 47 t).map Value.string).toArray 9 (0,0)):=by rw[hW];exact aC _ _
 have xn:=O ((yK t 47 w ab).mono (fun e w' h=>by rw[<-hW,Ys,fD]at h;exact⟨h.1,h.2.symm⟩):aB 125 #[.string t,.string ⟨#[47]⟩] w fun e w'=>e=.returned (.slice (some ⟨w.heap.size,0,none⟩) parts.length parts.length)/\W=w');rw[Ys]at ml;clear hW Ys;have ais:=O (show∀U,Fr aS W U->∀(k:Nat) p,parts[k]?=some p->U.cell? ⟨w.heap.size,k,none⟩=some (.string ⟨p.toArray⟩)from fun U hU k p hp=>by
  have:=hU.keep ml id;simp[World.cell?,this,dT,hp])
 clear ml;have Vl:∀(v:Value) (wr:World) (l:List (aH)),Strs (w.heap.size+1) wr v (dT l)->l.length<=100001->l=mK s.data.toList->Fr aS W wr ->
   aB 207 #[v,.string ⟨#[47]⟩] wr fun e w'=>e=.returned (.string ⟨(oV s.data.toList).toArray⟩)/\Fr aS w w':=fun v wr l hv hl e hf=>by
  have:=(RN v l wr hv.at ab (by rw[e];exact FN.o)).mono (R':=fun e w'=>e=.returned (.string ⟨(oV s.data.toList).toArray⟩)/\Fr aS w w') (fun e' w' ⟨h1,h2⟩=>⟨by rw[h1,e];rfl,(hfW.trans hf).trans h2⟩);exact this
 have Vl:=O Vl;have ait:=O (show aB 177 #[.string s,.string ⟨#[47]⟩] w fun e w'=>e=.returned (.bool (Lib.hasPrefix s.data.toList (⟨#[47]⟩:aj).data.toList))/\w=w' from(strings_HasPrefix s ⟨#[47]⟩ w).mono fun e w' h=>⟨h.1,h.2.symm⟩);cases vT:Lib.hasPrefix s.data.toList [47]
 case' false =>
  have e:=P5 vT;have Vm:=xn.o;rw[e]at Vm;clear TT P5 ht e D';go_enter func178,ntmps178;go_wp2_with fail
  refine ait.o.mono ?_;rintro e u⟨rfl,rfl⟩;rw[show Lib.hasPrefix s.data.toList (⟨#[47]⟩:aj).data.toList=false from vT];go_wp2_with fail
  refine Vm.mono ?_;rintro e u⟨rfl,rfl⟩
 case' true =>
  have e:=TT vT;have Vm:=xn.o;rw[e]at Vm;clear TT P5 ht e D';go_enter func178,ntmps178;go_wp2_with fail
  refine ait.o.mono ?_;rintro e u⟨rfl,rfl⟩;rw[show Lib.hasPrefix s.data.toList (⟨#[47]⟩:aj).data.toList=true from vT];go_wp2_with fail
  refine Vm.mono ?_;rintro e u⟨rfl,rfl⟩
 all_goals
  go_wp2;go_loopw[3,17] (air s.data.toList (w.heap.size+1) W parts) (fun _ i _=>parts.length-(intOf i).toNat)
  case atStart=>exact⟨0,[],aL _,rfl,ld _ _,ay _,by rw[eI];exact HGO.o,ae _ _⟩
  case round =>
   obtain⟨k,l,hk,rfl,hv,hlk,hgo,cP⟩:=hrel;have HG:=O hgo;clear hgo;obtain⟨av,cv,Lw⟩:=hv.form;rw[fD]at Lw;subst Lw;have Cy:w.heap.size+1<=wr.heap.size:=by have:=cP.size;omega
   by_cases fe:k<parts.length
   ·have pE:(k:Int)<(parts.length:Int):=ab;obtain⟨p,hp⟩:∃p,parts[k]?=some p:=⟨_,List.getElem?_eq_getElem fe⟩;have hcell:=ais.o wr cP k p hp;have TU:=O (show qg l (parts.drop k)=qg (iq l p (parts.drop (k+1)).isEmpty) (parts.drop (k+1))by rw[RM hp];rfl);clear hp;have C8:(⟨p.toArray⟩:aj).toList=p:=by rw[aP]
    obtain⟨pb,Ys⟩:∃pb:aj,pb=⟨p.toArray⟩:=⟨_,rfl⟩;rw[<-Ys]at hcell C8;have HPB:=O Ys;clear Ys;have FO:=O (show∀(l':List (aH)),l'=iq l p (parts.drop (k+1)).isEmpty->l'.length<=k+1/\qg l' (parts.drop (k+1))=mK s.data.toList from fun l' e=>by
     have:=Vj l p (parts.drop (k+1)).isEmpty;rw[e];exact⟨ab,by rw[<-TU.o];exact HG.o⟩)
    by_cases hla:k+1=parts.length
    ·have HE:=O (show(parts.drop (k+1)).isEmpty=true by rw[hla];simp);have hl1:((k:Int)==(parts.length:Int)-1)=true:=dX.2 ab;clear hla;by_cases td:p=Ux
     ·subst td;have Fp:pb.toList=[46,46]:=C8;clear C8;by_cases hlen:1<l.length
      ·have hli:(1:Int)<(l.length:Int):=ab;obtain⟨l0,x,TV⟩:∃l0 x,l=l0++[x]:=⟨l.dropLast,l.getLast (by intro e;rw[e]at hlen;simp at hlen),(List.dropLast_concat_getLast _).symm⟩;have hll:l.length=l0.length+1:=by rw[TV];simp
       obtain⟨ad,had⟩:∃ad,av=some ad:=by
        cases av with
        |none=>exact absurd (D_ hv) ab
        |some ad=>exact⟨ad,rfl⟩
       subst had;have N5:=O (show zx l=l0 by unfold zx;rw[az hlen,TV];simp);rw[TV,n_]at hv;rw[hll];rw[show(l0++[x]).length=(dT l0).length+1 from by rw[fD];simp]at hv;replace hv:=Strs.pop hv;rw[fD]at hv;have q1:(0:Int)<=(l0.length:Int):=ab;have q4:(l0.length:Int)<=(cv:Int):=by have:=Strs.cap hv;rw[fD]at this;omega
       have q5:l0.length<=cv:=ab;have q2:(1:Int)<(l0.length:Int)+1:=ab;have q3:(l0.length:Int)+1-1=(l0.length:Int):=ab;clear hli TV;have HX:=O (FO.o (l0++[[]]) (by unfold iq;rw[az rfl,HE.o,N5.o];rfl))
       go_wp2_with (at_builtin;refine nW rfl _ _ rfl (w.heap.size+1) (.slice (some ad) _ cv) (dT l0) rfl (by apply iM;exact hv) ⟨wr.heap.size,0,none⟩ 1 ⟨#[]⟩ rfl (jC _ _ _ _) (by rw[fD];omega) bH ?_;intro v2 w3 BX CV)
       have il:=O ((cP.alloc (.cells #[.string ⟨#[]⟩] 9)).fW CV (fun j hj=>by have:=hv.block j hj;omega));go_roundw
       case rel=>exact⟨k+1,l0++[[]],ab,bg,by rw[n_];exact BX,(HX.o).1,(HX.o).2,il.o⟩
       case measure=>simp[intOf];omega
      ·have hli:¬(1:Int)<(l.length:Int):=ab;have N5:=O (show zx l=l by unfold zx;rw[aq hlen]);have HX:=O (FO.o (l++[[]]) (by unfold iq;rw[az rfl,HE.o,N5.o];rfl));go_wp2_with (at_builtin;refine nW rfl _ _ rfl (w.heap.size+1) (.slice av _ cv) (dT l) rfl (by apply iM;exact hv) ⟨wr.heap.size,0,none⟩ 1 ⟨#[]⟩ rfl (jC _ _ _ _) (by rw[fD];omega) bH ?_;intro v2 w3 BX CV)
       have il:=O ((cP.alloc (.cells #[.string ⟨#[]⟩] 9)).fW CV (fun j hj=>by have:=hv.block j hj;omega));go_roundw
       case rel=>exact⟨k+1,l++[[]],ab,bg,by rw[n_];exact BX,(HX.o).1,(HX.o).2,il.o⟩
       case measure=>simp[intOf];omega
     ·have ad5:¬pb.toList=[46,46]:=fun e=>td (C8.symm.trans e);have aoi:(pb.toList== [46,46])=false:=aO.2 ad5;by_cases zt:p=adp
      ·subst zt;have Fp:pb.toList=[46]:=C8;clear C8;have HX:=O (FO.o (l++[[]]) (by unfold iq;rw[aq td,az rfl,HE.o];rfl));clear td;go_wp2_with (at_builtin;refine nW rfl _ _ rfl (w.heap.size+1) (.slice av _ cv) (dT l) rfl (by apply iM;exact hv) ⟨wr.heap.size,0,none⟩ 1 ⟨#[]⟩ rfl (jC _ _ _ _) (by rw[fD];omega) bH ?_;intro v2 w3 BX CV)
       have il:=O ((cP.alloc (.cells #[.string ⟨#[]⟩] 9)).fW CV (fun j hj=>by have:=hv.block j hj;omega));go_roundw
       case rel=>exact⟨k+1,l++[[]],ab,bg,by rw[n_];exact BX,(HX.o).1,(HX.o).2,il.o⟩
       case measure=>simp[intOf];omega
      ·have ad6:¬pb.toList=[46]:=fun e=>zt (C8.symm.trans e);have aoj:(pb.toList== [46])=false:=aO.2 ad6;have HX:=O (FO.o (l++[p]) (by unfold iq;rw[aq td,aq zt]));clear td zt C8;go_wp2_with (at_builtin;refine nW rfl _ _ rfl (w.heap.size+1) (.slice av _ cv) (dT l) rfl (by apply iM;exact hv) ⟨wr.heap.size,0,none⟩ 1 pb rfl (jC _ _ _ _) (by rw[fD];omega) bH ?_;intro v2 w3 BX CV)
       have il:=O ((cP.alloc (.cells #[.string pb] 9)).fW CV (fun j hj=>by have:=hv.block j hj;omega));go_roundw
       case rel=>exact⟨k+1,l++[p],ab,bg,by rw[n_, <-HPB.o];exact BX,(HX.o).1,(HX.o).2,il.o⟩
       case measure=>simp[intOf];omega
    ·have HE:=O (show(parts.drop (k+1)).isEmpty=false by
      cases e:parts.drop (k+1)with
      |nil=>have:=ar List.length e;simp at this;omega
      |cons a b=>rfl)
     have hl1:((k:Int)==(parts.length:Int)-1)=false:=aO.2 ab;by_cases td:p=Ux
     ·subst td;have Fp:pb.toList=[46,46]:=C8;clear C8;by_cases hlen:1<l.length
      ·have hli:(1:Int)<(l.length:Int):=ab;obtain⟨l0,x,TV⟩:∃l0 x,l=l0++[x]:=⟨l.dropLast,l.getLast (by intro e;rw[e]at hlen;simp at hlen),(List.dropLast_concat_getLast _).symm⟩;have hll:l.length=l0.length+1:=by rw[TV];simp
       obtain⟨ad,had⟩:∃ad,av=some ad:=by
        cases av with
        |none=>exact absurd (D_ hv) ab
        |some ad=>exact⟨ad,rfl⟩
       subst had;have N5:=O (show zx l=l0 by unfold zx;rw[az hlen,TV];simp);rw[TV,n_]at hv;rw[hll];rw[show(l0++[x]).length=(dT l0).length+1 from by rw[fD];simp]at hv;replace hv:=Strs.pop hv;rw[fD]at hv;have q1:(0:Int)<=(l0.length:Int):=ab;have q4:(l0.length:Int)<=(cv:Int):=by have:=Strs.cap hv;rw[fD]at this;omega
       have q5:l0.length<=cv:=ab;have q2:(1:Int)<(l0.length:Int)+1:=ab;have q3:(l0.length:Int)+1-1=(l0.length:Int):=ab;clear hli TV;have HX:=O (FO.o (l0) (by unfold iq;rw[az rfl,HE.o,N5.o];rfl));go_wp2;go_roundw
       case rel=>exact⟨k+1,l0,ab,bg,hv,(HX.o).1,(HX.o).2,cP⟩
       case measure=>simp[intOf];omega
      ·have hli:¬(1:Int)<(l.length:Int):=ab;have N5:=O (show zx l=l by unfold zx;rw[aq hlen]);have HX:=O (FO.o (l) (by unfold iq;rw[az rfl,HE.o,N5.o];rfl));go_wp2;go_roundw
       case rel=>exact⟨k+1,l,ab,bg,hv,(HX.o).1,(HX.o).2,cP⟩
       case measure=>simp[intOf];omega
     ·have ad5:¬pb.toList=[46,46]:=fun e=>td (C8.symm.trans e);have aoi:(pb.toList== [46,46])=false:=aO.2 ad5;by_cases zt:p=adp
      ·subst zt;have Fp:pb.toList=[46]:=C8;clear C8;have HX:=O (FO.o (l) (by unfold iq;rw[aq td,az rfl,HE.o];rfl));clear td;go_wp2;go_roundw
       case rel=>exact⟨k+1,l,ab,bg,hv,(HX.o).1,(HX.o).2,cP⟩
       case measure=>simp[intOf];omega
      ·have ad6:¬pb.toList=[46]:=fun e=>zt (C8.symm.trans e);have aoj:(pb.toList== [46])=false:=aO.2 ad6;have HX:=O (FO.o (l++[p]) (by unfold iq;rw[aq td,aq zt]));clear td zt C8;go_wp2_with (at_builtin;refine nW rfl _ _ rfl (w.heap.size+1) (.slice av _ cv) (dT l) rfl (by apply iM;exact hv) ⟨wr.heap.size,0,none⟩ 1 pb rfl (jC _ _ _ _) (by rw[fD];omega) bH ?_;intro v2 w3 BX CV)
       have il:=O ((cP.alloc (.cells #[.string pb] 9)).fW CV (fun j hj=>by have:=hv.block j hj;omega));go_roundw
       case rel=>exact⟨k+1,l++[p],ab,bg,by rw[n_, <-HPB.o];exact BX,(HX.o).1,(HX.o).2,il.o⟩
       case measure=>simp[intOf];omega
   ·have pE:¬(k:Int)<(parts.length:Int):=ab;have he:l=mK s.data.toList:=by
     have:=HG.o;rw[List.drop_of_length_le ab]at this;exact this
    have hj:=O (Vl.o _ wr l hv ab he cP);clear he;go_wp2_with fail
    refine hj.o.mono ?_;rintro e w9⟨rfl,ZR⟩;go_wp2;go_ret;exact⟨rfl,ZR⟩
def gy(base:Nat)(w:World)(v:Value)(gs:List (aQ bE)):Prop :=
 ∃rs:List (aQ Value),OwnRows base 114 16 w v (rs.map aQ.cells)/\lq (aQ.Reads (dx base w)) rs gs
theorem gy.fr(h:gy base w v gs)(hf:Fr S w w')(ho:sG base w S)(hn:∀k,v.ownBlock=some k->¬S k):gy base w' v gs:=by
 obtain⟨rs,h1,h2⟩:=h;exact⟨rs,h1.fr hf hn,h2.mono (fun _ _ h=>h.mono (fun _ _ h=>h.fr hf ho))⟩
theorem gy.form(h:gy base w v gs):∃a c,v=.slice a gs.length c:=by
 obtain⟨rs,h1,h2⟩:=h;obtain⟨a,c,hv⟩:=h1.form;exact⟨a,c,by rw[hv,ai,h2.len]⟩
def ZX(base:Nat)(w:World)(b:Nat)(o:Nat)(g:aQ bE):Prop :=
 ∃r:aQ Value,(∀u∈r.cells,u.oneCell'=true)/\r.Reads (dx base w) g/\∀(i:Nat) u,r.cells[i]?=some u->w.cell? ⟨b,o+i,none⟩=some u
theorem gy.at{base:Nat}{w:World}{v:Value}{gs:List (aQ bE)}(h:gy base w v gs){k:Nat}(hk:k<gs.length) :
  ∃b c,v=.slice (some ⟨b,0,none⟩) gs.length c/\gs.length<=maxLen/\ZX base w b (k*16) gs[k]:=by
 obtain⟨rs,h1,h2⟩:=h;have hl:=h2.len;obtain⟨x,hx⟩:∃x,rs[k]?=some x:=⟨_,List.getElem?_eq_getElem ab⟩;obtain⟨g,hg,hr⟩:=h2.get hx;rw[List.getElem?_eq_getElem hk]at hg;obtain rfl:=km hg;have dS:=h1.at;rcases h1.2.2 with ⟨_,hn⟩|⟨bk,cap,cur,hv,_⟩
 ·rw[ai]at hn;omega
 rcases dS.2 with ⟨_,_,e1,e,_⟩|⟨I8,o,c,sL,q1,q2,q3,q4⟩
 ·simp at e;rw[e]at hl;simp at hl;omega
 ·rw[hv]at sL;cases sL;rw[ai]at q1;refine⟨bk,cap,by rw[hv,ai,hl],ab,x,(h1.1 x.cells (bZ.2 ⟨x,bQ hx,rfl⟩)).2,hr,?_⟩;intro i u hu;have:=q4 k x.cells (by rw[List.getElem?_map,hx];rfl) i u hu;rw[bz]at this;exact this
structure bK (D:Type) where
 o:gG
 proxy:Bool
 path:aj
 a:fQ D
def bK.cells(g:bK Value):aZ :=
 [.bool g.o.aG,.string g.o.host,.int .i64 g.o.port,.bool g.proxy,.string g.path,
  .int .i64 g.a.scheme,.string g.a.aM,.string g.a.bu,.string g.a.cz,.bool g.a.cD,.string g.a.eJ,.bool g.a.cR,g.a.dom]
def bK.Reads(R:Value->List aj->Prop)(r:bK Value)(g:bK (List aj)):Prop :=
 r.o=g.o/\r.proxy=g.proxy/\r.path=g.path/\r.a.Reads R g.a
theorem bK.Reads.mono{R S:Value->List aj->Prop}{r:bK Value}{g:bK (List aj)}(h:r.Reads R g)(hs:∀v l,R v l->S v l):r.Reads S g :=
 ⟨h.1,h.2.1,h.2.2.1,h.2.2.2.mono hs⟩
def ks(base:Nat)(w:World)(v:Value)(gs:List (bK bE)):Prop :=
 ∃rs:List (bK Value),OwnRows base 133 13 w v (rs.map bK.cells)/\lq (bK.Reads (dx base w)) rs gs
theorem ks.fr{gs:List (bK bE)}(h:ks base w v gs)(hf:Fr S w w')(ho:sG base w S)(hn:∀k,v.ownBlock=some k->¬S k):ks base w' v gs:=by
 obtain⟨rs,h1,h2⟩:=h;exact⟨rs,h1.fr hf hn,h2.mono (fun _ _ h=>h.mono (fun _ _ h=>h.fr hf ho))⟩
theorem ks.form{gs:List (bK bE)}(h:ks base w v gs):∃a c,v=.slice a gs.length c:=by
 obtain⟨rs,h1,h2⟩:=h;obtain⟨a,c,hv⟩:=h1.form;exact⟨a,c,by rw[hv,ai,h2.len]⟩
structure dH (base:Nat) (w:World) (b:Nat) (gv wv:Value) (gs:List (aQ bE)) (ws:List (bK bE)):Prop where
 low:base<=b
 eN:w.heap[b]?=some (.cells #[gv,wv] 89 (0,0))
 bG:gy base w gv gs
 waits:ks base w wv ws
section
variable {base : Nat} {w w' : World} {b : Nat} {gv wv : Value} {gs : List (aQ bE)} {ws : List (bK bE)}
theorem dH.lt(h:dH base w b gv wv gs ws):b<w.heap.size:=bq h.eN
theorem dH.c0(h:dH base w b gv wv gs ws):w.cell? ⟨b,0,none⟩=some gv:=by simp[World.cell?,h.eN]
theorem dH.c1(h:dH base w b gv wv gs ws):w.cell? ⟨b,1,none⟩=some wv:=by simp[World.cell?,h.eN]
theorem dH.free(h:dH base w b gv wv gs ws)(k:Nat):w.frozen? ⟨b,k,none⟩=false:=by simp[World.frozen?,h.eN]
theorem dH.fr(h:dH base w b gv wv gs ws)(hf:Fr S w w')(ho:sG base w S)(hb:¬S b)(h1:∀k,gv.ownBlock=some k->¬S k)(h2:∀k,wv.ownBlock=some k->¬S k):dH base w' b gv wv gs ws :=
 ⟨h.low,hf.keep h.eN hb,h.bG.fr hf ho h1,h.waits.fr hf ho h2⟩
theorem dH.dm(h:dH base w b gv wv gs ws)(hf:Fr aS w w'):dH base w' b gv wv gs ws:=h.fr hf (fJ _ _) id (fun _ _ h=>h) (fun _ _ h=>h)
end
abbrev eY:bT:= #[.bool false,.string ⟨#[]⟩,.int .i64 0,.bool false,.string ⟨#[]⟩,.string ⟨#[]⟩,.int .i64 0,.string ⟨#[]⟩,.string ⟨#[]⟩,.string ⟨#[]⟩,.bool false,.string ⟨#[]⟩,.bool false,.slice none 0 0,.int .i64 0,.slice none 0 0]
def o_{α:Type}(f:α->Int):List α->Nat->Int×Int->Int×Int
 |[],_,acc=>acc
 |g :: l,i,acc=>o_ f l (i+1) (if 0<=f g/\acc.1<=f g then(f g,(i:Int))else acc)
theorem Ec{α:Type}(f:α->Int):∀(l:List α) (i:Nat) (acc:Int×Int) (x:α),
  o_ f (l++[x]) i acc=(if 0<=f x/\(o_ f l i acc).1<=f x then(f x,((i+l.length:Nat):Int))else o_ f l i acc)
 |[],i,acc,x=>by simp only[List.nil_append,o_,List.length_nil,Nat.add_zero];rfl
 |g :: l,i,acc,x=>by
  rw[List.cons_append,o_,Ec f l (i+1) _ x,o_];simp only[List.length_cons,show i+1+l.length=i+(l.length+1)from ab]
def pZ(o:gG)(proxy:Bool)(path:aj)(g:aQ bE):Int:=uT g.o g.proxy g.paths o proxy path
def uo(gs:List (aQ bE))(o:gG)(proxy:Bool)(path:aj):Int:=(o_ (pZ o proxy path) gs 0 (-1, -1)).2
def ZY(w:World)(gs:List (aQ bE))(o:gG)(proxy:Bool)(path:aj)(aon at_ i:Value)(wr:World):Prop :=
 ∃k:Nat,k<=gs.length/\i=.int .i64 k/\aon=.int .i64 (o_ (pZ o proxy path) (gs.take k) 0 (-1, -1)).1/\at_=.int .i64 (o_ (pZ o proxy path) (gs.take k) 0 (-1, -1)).2/\Fr aS w wr
theorem Vv(base:Nat)(w:World)(b:Nat)(gv wv:Value)(gs:List (aQ bE))(ws:List (bK bE))(o:gG)(proxy:Bool)(path:aj)(h:dH base w b gv wv gs ws) :
  aB 94 #[.pointer (some ⟨b,0,none⟩),.agg o.cells.toArray,.bool proxy,.string path] w fun e w'=>e=.returned (.int .i64 (uo gs o proxy path))/\Fr aS w w':=by
 unfold gG.cells;have h0:=h.c0;obtain⟨av,cv,hv⟩:=h.bG.form;subst hv;have sS:=h.lt;go_enter func94,ntmps94;go_wp2;clear h0;have pq:Fr aS w (w.alloc (.cells #[.bool o.aG,.string o.host,.int .i64 o.port] 32)):=(ae aS w).alloc _;have hO:(w.alloc (.cells #[.bool o.aG,.string o.host,.int .i64 o.port] 32)).heap[w.heap.size]?=some (.cells #[.bool o.aG,.string o.host,.int .i64 o.port] 32 (0,0)):=aC w _
 have h1:=h.dm pq;generalize w.alloc (.cells #[.bool o.aG,.string o.host,.int .i64 o.port] 32)=W at pq hO h1;go_loopw[9,10,19] (ZY W gs o proxy path) (fun _ _ i _=>gs.length-(intOf i).toNat)
 case atStart=>exact⟨0,aL _,rfl,rfl,rfl,ae _ _⟩
 case round =>
  obtain⟨k,hk,rfl,rfl,rfl,cP⟩:=hrel;by_cases fe:k<gs.length
  ·obtain⟨bk,c,dk,tu,r,ef,hr,hcell⟩:=(h1.dm cP).bG.at fe;cases dk;unfold maxLen at tu;have hO2:=cP.keep hO id;obtain⟨x,hx⟩:∃x,x=r.cells:=⟨_,rfl⟩;have lM:x.length=16:=by rw[hx];rfl
   have jx:=fun W=>run_storeCells_new (P:=prog) W 114 #[.bool false,.string ⟨#[]⟩,.int .i64 0,.bool false,.string ⟨#[]⟩,.string ⟨#[]⟩,.int .i64 0,.string ⟨#[]⟩,.string ⟨#[]⟩,.string ⟨#[]⟩,.bool false,.string ⟨#[]⟩,.bool false,.slice none 0 0,.int .i64 0,.slice none 0 0] x (by rw[lM];rfl) (by rw[hx];exact ef);rw[<-hx]at hcell;have HX:=O hx
   have Ed:(prog.info? 114).map (·.size)=some x.toArray.size:=by rw[aX,lM];kernel_rfl
   have I9:=O Ed;clear hx Ed;have hO3:(wr.alloc (.cells x.toArray 114)).heap[w.heap.size]?=some (.cells #[.bool o.aG,.string o.host,.int .i64 o.port] 32 (0,0)):=by rw[Below.heap_alloc _ _ _ (bq hO2)];exact hO2
   have HO3:=O hO3;clear hO3 hO2
   go_wp2_with (first|((with_reducible refine dr 23 ?_);refine aY rfl 114 (.tmp 22) rfl bk (k*16) rfl x _ hcell underlying114 rfl (by have h:=I9.o;rw[aX]at h;exact h) ?_)|((with_reducible refine dr 24 ?_);refine aI rfl 114 (.tmp 12) rfl wr.heap.size rfl _ x.toArray (0,0) _ (aC wr _) underlying114 rfl I9.o ?_)|((with_reducible refine dr 25 ?_);refine aI rfl 32 (.tmp 5) rfl w.heap.size rfl _ _ (0,0) _ HO3.o underlying32 rfl af ?_)|fail)
   have gX:Fr aS wr (wr.alloc (.cells x.toArray 114)):=(ae aS wr).alloc _;have hps:=(hr.2.2.2.2.2.2.dm gX).rd;have hre:=O (show uT r.o r.proxy gs[k].paths o proxy path=pZ o proxy path gs[k]by unfold pZ;rw[hr.1,hr.2.1]);have dS:=List.getElem?_eq_getElem fe;have JX:=O (show o_ (pZ o proxy path) (gs.take (k+1)) 0 (-1, -1)=_ by rw[d_ dS,Ec,aJ,dP hk,bz]);have qD:=(cP.trans gX)
   have fH:=O (RU r o proxy path gs[k].paths _ hps);rw[<-HX.o]at fH;clear hr gX dS ef jx;generalize wr.alloc (.cells x.toArray 114)=W2 at *
   refine fH.o.mono ?_;rintro e w3⟨rfl,iz⟩;have il:=qD.trans iz;rw[hre.o];clear hre fH hps hcell;generalize o_ (pZ o proxy path) (gs.take k) 0 (-1, -1)=acc at *
   generalize pZ o proxy path gs[k]=n at *
   by_cases h0:0<=n
   ·by_cases I_:acc.1<=n
    ·have hs:=O (show o_ (pZ o proxy path) (gs.take (k+1)) 0 (-1, -1)=(n,(k:Int))by rw[JX.o,az ⟨h0,I_⟩]);go_wp2;go_roundw
     case rel=>exact⟨k+1,ab,bg,by rw[hs.o],by rw[hs.o],il⟩
     case measure=>simp[intOf];omega
    ·have hs:=O (show o_ (pZ o proxy path) (gs.take (k+1)) 0 (-1, -1)=acc by rw[JX.o,aq (fun h=>I_ h.2)]);go_wp2;go_roundw
     case rel=>exact⟨k+1,ab,bg,by rw[hs.o],by rw[hs.o],il⟩
     case measure=>simp[intOf];omega
   ·have hs:=O (show o_ (pZ o proxy path) (gs.take (k+1)) 0 (-1, -1)=acc by rw[JX.o,aq (fun h=>h0 h.1)]);go_wp2;go_roundw
    case rel=>exact⟨k+1,ab,bg,by rw[hs.o],by rw[hs.o],il⟩
    case measure=>simp[intOf];omega
  ·have hs:=O (show(o_ (pZ o proxy path) (gs.take k) 0 (-1, -1)).2=uo gs o proxy path by rw[aD ab];rfl);go_wp2;go_ret;exact⟨by rw[<-hs.o];rfl,pq.trans cP⟩
abbrev ZZ:bT:= #[.bool false,.string ⟨#[]⟩,.int .i64 0,.bool false,.string ⟨#[]⟩,.string ⟨#[]⟩,.int .i64 0,.string ⟨#[]⟩,.string ⟨#[]⟩,.string ⟨#[]⟩,.bool false,.string ⟨#[]⟩,.bool false,.slice none 0 0,.int .i64 0,.slice none 0 0]
theorem QA:∀v∈ZZ.toList,v.oneCell'=true:=dw
theorem I'{x:aZ}(h:x.length=16):(prog.info? 114).map (·.size)=some x.length:=by rw[h];kernel_rfl
def aec(w:World)(p:aZ->Bool)(xs:dh)(i:Value)(wr:World):Prop :=
 ∃k:Nat,k<=xs.length/\i=.int .i64 k/\(xs.take k).any p=false/\Fr aS w wr
theorem zY(g:Nat)(cap:bT)(p:aZ->Bool)(v:Value)(xs:dh)(w:World)(eg:∀args w,(callFunc g args).run prog w=.ok (.enter g args) w)(hp:gT aS w g cap p xs)(hv:dZ 16 w v xs) :
  aB 162 #[v,.func (.func g) #[] cap] w fun e w'=>e=.returned (.int .i64 (mh p xs 0))/\Fr aS w w':=by
 obtain⟨av,cv,fO⟩:=hv.form;subst fO;have ef:=O hv.1;go_enter func162,ntmps162;go_wp2;go_loopw[8] (aec w p xs) (fun i _=>xs.length-(intOf i).toNat)
 case atStart=>exact⟨0,aL _,rfl,rfl,ae _ _⟩
 case round =>
  obtain⟨k,hk,rfl,hn,cP⟩:=hrel;have HN:=O hn;clear hn;by_cases fe:k<xs.length
  ·rcases(hv.fN cP).2 with ⟨_,_,_,e,_⟩|⟨bk,of,c,hf,h1,h2,h3,h4⟩
   ·rw[e]at fe;exact absurd fe (bV _)
   ·cases hf;unfold maxLen at h2;have dS:=O (List.getElem?_eq_getElem fe);have hcell:=h4 k _ dS.o;have iJ:=O (bO fe);generalize xs[k]=x at dS hcell iJ;have fH:=O (hp x iJ.o wr cP);have lM:=(ef.o x iJ.o).1;clear h4;cases qU:p x
    ·have qt:=O (any_take_succ dS.o HN.o qU);go_wp2_with (first|((with_reducible refine dr 15 ?_);refine aY rfl 114 (.tmp 14) rfl bk (of+k*16) rfl x _ hcell underlying114 rfl (I' lM) ?_)|fail)
     refine fH.o.mono ?_;rintro e w1⟨rfl,dk⟩;rw[qU];go_wp2;go_roundw
     case rel=>exact⟨k+1,ab,bg,qt.o,cP.trans dk⟩
     case measure=>simp[intOf];omega
    ·have fl:=O (o9 (i:=0) dS.o qU HN.o);go_wp2_with (first|((with_reducible refine dr 15 ?_);refine aY rfl 114 (.tmp 14) rfl bk (of+k*16) rfl x _ hcell underlying114 rfl (I' lM) ?_)|fail)
     refine fH.o.mono ?_;rintro e w1⟨rfl,dk⟩;rw[qU];go_wp2;go_ret;rw[fl.o,bz];exact⟨rfl,cP.trans dk⟩
  ·have fl:=O (show mh p xs 0= -1 from kE (by have h:=HN.o;rw[aD ab]at h;exact h));go_wp2;go_ret;rw[fl.o];exact⟨rfl,cP⟩
def aed(b:Nat)(w:World)(bk cap:Nat)(p:aZ->Bool)(xs:dh)(i j:Value)(wr:World):Prop :=
 ∃(m n:Nat) (ys:dh),i=.int .i64 m/\j=.int .i64 n/\m<n/\n<=xs.length/\ys.length=xs.length/\OwnRows b 114 16 wr (.slice (some ⟨bk,0,none⟩) xs.length cap) ys /\
  ys.take m=(xs.take n).filter (fun x=>!p x)/\ys.drop n=xs.drop n/\Fr (one bk) w wr
theorem zZ{p:aZ->Bool}:∀ {l:dh} (i:Nat),l.any p=true->∃k x,l[k]?=some x/\p x=true/\(l.take k).any p=false/\mh p l i=((i+k:Nat):Int)
 |[],_,h=>by simp at h
 |a :: l,i,h=>by
  cases ha:p a
  ·rw[List.any_cons,ha,jU]at h;obtain⟨k,x,h1,h2,h3,h4⟩:=zZ (i+1) h;refine⟨k+1,x,by simpa using h1,h2,by simp[ha,h3],?_⟩;rw[mh,ha];simp only[cL,fa];rw[h4];congr 1;omega
  ·exact⟨0,a,rfl,ha,rfl,by rw[mh,ha];simp⟩
theorem z_{p:aZ->Bool}{l:dh}(h:l.any p=false):l.filter (fun x=>!p x)=l:=by
 rw[List.filter_eq_self];intro a ha;have:=fc.1 h a ha;simpa using this
theorem ye(b:Nat)(g:Nat)(cap:bT)(p:aZ->Bool)(v:Value)(xs:dh)(w:World)(eg:∀args w,(callFunc g args).run prog w=.ok (.enter g args) w)(hp:gT (own v) w g cap p xs)(hv:OwnRows b 114 16 w v xs) :
  aB 107 #[v,.func (.func g) #[] cap] w fun e w'=>∃a c,e=.returned (.slice a (xs.filter (fun x=>!p x)).length c)/\OwnRows b 114 16 w' (.slice a (xs.filter (fun x=>!p x)).length c) (xs.filter (fun x=>!p x))/\Fr (own v) w w'/\own (.slice a (xs.filter (fun x=>!p x)).length c)=own v:=by
 cases jv:xs.any p
 ·have r_:=O (kE (i:=0) jv);rw[z_ jv];obtain⟨av,cv,fO⟩:=hv.form;subst fO;go_enter func107,ntmps107;go_wp2_with fail
  refine(zY g cap p _ xs w eg hp.none hv.at).mono ?_;rintro e w1⟨rfl,dk⟩;rw[r_.o];go_wp2;go_ret;exact⟨_,_,rfl,hv.fr dk (fun _ _ h=>h),dk.mono (fun _ _ h=>absurd h id),rfl⟩
 ·obtain⟨k0,x0,I7,Ej,vT,r_⟩:=zZ 0 jv;rw[bz]at r_;have JZ:=(List.getElem?_eq_some_iff.1 I7).1;obtain⟨bk,cp,Lw⟩:∃bk cp,v=.slice (some ⟨bk,0,none⟩) xs.length cp:=by
   rcases hv.2.2 with ⟨_,hn⟩|⟨bk,cp,cur,hv,_⟩
   ·omega
   ·exact⟨bk,cp,hv⟩
  subst Lw;obtain⟨CD,cur,sL,q1,q2,q3,q4,q5,q6⟩:=hv.open (g:=bk) rfl;cases sL;unfold maxLen at q4;have ef:=O hv.1;have Ek:=O (show xs.take k0=(xs.take (k0+1)).filter (fun x=>!p x)by
   rw[d_ I7,cG,z_ vT];simp[Ej])
  have HP:=O hp;have Z0:=O r_;clear jv vT I7 Ej r_ q2 q5 q6 hp;go_enter func107,ntmps107;go_wp2_with fail
  refine(zY g cap p _ xs w eg HP.o.none hv.at).mono ?_;rintro e w1⟨rfl,dk⟩;rw[Z0.o];have FC:=hv.fr dk (fun _ _ h=>h);have J5:((k0:Int)== -1)=false:=by rw[aO];omega
  go_wp2;go_loopw[5,6] (aed b w bk cp p xs) (fun _ j _=>xs.length-(intOf j).toNat)
  case atStart=>exact⟨k0,k0+1,xs,rfl,bg,ab,ab,rfl,FC,Ek.o,rfl,dk.mono (fun _ _ h=>absurd h id)⟩
  case round =>
   obtain⟨m,n,ys,rfl,rfl,hmn,hn,hlen,cW,rO,tz,cP⟩:=hrel;have HT:=O rO;have HD:=O tz;have j8:=O hlen;clear rO tz hlen;rw[<-j8.o]at cW;have sa:=cW.at;by_cases fe:n<xs.length
   ·rcases sa.2 with ⟨_,_,_,e,_⟩|⟨I8,of,c,hf,h1,h2,h3,h4⟩
    ·have hl:=j8.o;rw[e]at hl;simp at hl;omega
    ·cases hf;have dS:=O (List.getElem?_eq_getElem fe);have yO:ys[n]?=some xs[n]:=by
      have e:=ar (fun l:dh=>l[0]?) HD.o;simp only[List.getElem?_drop,Nat.add_zero]at e;rw[e,dS.o]
     have hcell:=h4 n _ yO;simp only[bz]at hcell;have iJ:=O (bO fe);generalize xs[n]=x at dS hcell iJ yO;have lM:=(ef.o x iJ.o).1;have mU:=O (ef.o x iJ.o).2
     have jx:=fun W=>run_storeCells_new (P:=prog) W 114 #[.bool false,.string ⟨#[]⟩,.int .i64 0,.bool false,.string ⟨#[]⟩,.string ⟨#[]⟩,.int .i64 0,.string ⟨#[]⟩,.string ⟨#[]⟩,.string ⟨#[]⟩,.bool false,.string ⟨#[]⟩,.bool false,.slice none 0 0,.int .i64 0,.slice none 0 0] x (by rw[lM];rfl) mU.o;have gX:Fr aS wr (wr.alloc (.cells x.toArray 114)):=(ae aS wr).alloc _
     have fH:=O (HP.o x iJ.o (wr.alloc (.cells x.toArray 114)) ((cP.alloc _).mono (fun k _ h=>by have e:k=bk:=h;rw[e];rfl)));have Ja:=O (I' lM);have jz:=cP.alloc (.cells x.toArray 114);have fG:=cW.fr gX (fun _ _ h=>h);have qB:(wr.alloc (.cells x.toArray 114)).heap[wr.heap.size]?=some (.cells x.toArray 114 (0,0)):=aC _ _;have ui:=O qB;clear h4 yO qB gX
     go_wp2_with (first|((with_reducible refine dr 25 ?_);refine aY rfl 114 (.tmp 24) rfl bk (n*16) rfl x _ hcell underlying114 rfl Ja.o ?_)|((with_reducible refine dr 27 ?_);refine aI rfl 114 (.tmp 7) rfl wr.heap.size rfl _ x.toArray (0,0) _ ui.o underlying114 rfl (by rw[aX];exact Ja.o) ?_)|fail)
     have hlw:wr.heap.size<(wr.alloc (.cells x.toArray 114)).heap.size:=aR;clear jx hcell;generalize wr.alloc (.cells x.toArray 114)=W2 at *
     refine fH.o.mono ?_;rintro e w3⟨rfl,iz⟩;have qR:=jz.trans (iz.mono (fun _ _ h=>absurd h id));have fC:=fG.fr iz (fun _ _ h=>h);have tO:=O (iz.keep ui.o id);have Oc:=O j8.o;cases qU:p x
     ·have Yt:=O (fC.there (g:=bk) (cap:=cp) (by rw[j8.o]) (o:=m*16) (n:=x.toArray.size) (by
       have hmc:(m+1)*16<=cp*16:=bR _ ab;rw[aX,lM];omega))
      have fg:=fC.store (i:=m) (y:=x) (by rw[j8.o];omega) lM mU.o (g:=bk) rfl;rw[j8.o]at fg;have oI:=qR.step (fL (ae (one bk) w3) (fun _=>rfl) x (m*16)) (fun _ _ h=>h)
      go_wp2_with (first|((with_reducible refine dr 32 ?_);refine aI rfl 114 (.tmp 7) rfl wr.heap.size rfl _ x.toArray (0,0) _ tO.o underlying114 rfl (by rw[aX];exact Ja.o) ?_)|((with_reducible refine cZ 114 ?_);refine iw rfl 114 (.tmp 33) (.tmp 32) rfl bk (m*16) x.toArray rfl rfl Yt.o (by rw[aX];exact Ja.o) (b_ mU.o) ?_)|fail)
      go_roundw
      case rel =>
       refine⟨m+1,n+1,ys.set m x,bg,bg,ab,ab,by rw[en];exact Oc.o,fg,?_,?_,oI⟩
       ·rw[d_ (l:=ys.set m x) (List.getElem?_set_self (by rw[Oc.o];omega)),gA (ay m),d_ dS.o,cG,HT.o];simp[qU]
       ·rw[gB ab];have e:=ar (List.drop 1) HD.o;simpa[eD]using e
      case measure=>simp[intOf];omega
     ·rw[j8.o]at fC;go_wp2_with fail
      go_roundw
      case rel =>
       refine⟨m,n+1,ys,rfl,bg,ab,ab,Oc.o,fC,?_,?_,qR⟩
       ·rw[d_ dS.o,cG,HT.o];simp[qU]
       ·have e:=ar (List.drop 1) HD.o;simpa[eD]using e
      case measure=>simp[intOf];omega
   ·have se:n=xs.length:=ab;subst se;have fl:=O (show ys.take m=xs.filter (fun x=>!p x)by have h:=HT.o;rw[aD (ay _)]at h;exact h);have tu:(ys.take m).length=m:=by rw[aJ,j8.o];omega
    have Aa:=O (show(xs.filter (fun x=>!p x)).length=m by rw[<-fl.o];exact tu);have hcut:=cW.cut (i:=m) (by rw[j8.o];omega) (g:=bk) (cap:=cp) (by rw[j8.o]);have hle:(xs.length-m)*16+m*16<=cp*16:=by rw[<-dI];exact bR _ ab
    have CJ:(Builtin.zeroCells ZZ (xs.length-m)).toList.length=(xs.length-m)*16:=by simp[Builtin.zeroCells]
    have xY:=fun ty=>jM (P:=prog) wr 77 114 ty ZZ underlying77 (fun w=>af) ag QA bk (m*16) (xs.length-m) (cp-m) ab (by
     have:=cW.there (g:=bk) (cap:=cp) (by rw[j8.o]) (o:=m*16) (n:=(xs.length-m)*16) ab;exact this)
    have yP:=hcut.behind (o:=m*16) (vs:=(Builtin.zeroCells ZZ (xs.length-m)).toList) (by rw[tu];exact ay _) (g:=bk) (cap:=cp) (by rw[tu]) (by rw[CJ];omega);have oI:=cP.step (fL (ae (one bk) wr) (fun _=>rfl) (Builtin.zeroCells ZZ (xs.length-m)).toList (m*16)) (fun _ _ h=>h);clear cW sa hcut CJ tu hle j8;go_wp2_with fail
    go_ret;rw[Aa.o, <-fl.o];exact⟨_,_,rfl,yP,oI.mono (fun k _ h=>by have e:k=bk:=h;rw[e];rfl),rfl⟩
theorem aee:∃i0:TypeInfo,prog.info? 114=some i0/\i0.size=16:=by
 have h:(prog.info? 114).map (·.size)=some 16:=af;cases hq:prog.info? 114 with
 |none=>rw[hq]at h;cases h
 |some i=>rw[hq]at h;exact⟨i,rfl,by simpa using h⟩
theorem GW(b:Nat)(bk cp i j:Nat)(xs:dh)(w:World)(hv:OwnRows b 114 16 w (.slice (some ⟨bk,0,none⟩) xs.length cp) xs)(Rl:i<j)(hj:j<=xs.length) :
  aB 95 #[.slice (some ⟨bk,0,none⟩) xs.length cp,.int .i64 i,.int .i64 j] w fun e w'=>e=.returned (.slice (some ⟨bk,0,none⟩) (i+(xs.length-j)) cp)/\OwnRows b 114 16 w' (.slice (some ⟨bk,0,none⟩) (i+(xs.length-j)) cp) (xs.take i++xs.drop j)/\Fr (one bk) w w':=by
 obtain⟨i0,qN,ll⟩:=aee;obtain⟨CD,cur,sL,q1,q2,q3,q4,q5,q6⟩:=hv.open (g:=bk) rfl;cases sL;unfold maxLen at q4;have dS:=hv.at;have ef:=hv.1;obtain⟨news,kT⟩:∃news,news=(xs.drop j).flatten:=⟨_,rfl⟩;have hdr:∀x∈xs.drop j,x.length=16/\∀u∈x,u.oneCell'=true:=fun x hx=>ef x (eE hx);have hlen:news.length=(xs.length-j)*16:=by rw[kT,gJ (fun x hx=>(hdr x hx).1),bM]
 obtain⟨A,hA,Od⟩:∃A:Addr,(if cp=j then some (⟨bk,0,none⟩:Addr)else some ⟨bk,j*16,none⟩)=some A/\Hid (∀t u,news[t]?=some u->w.drew.cell? (A.add t)=some u):=by
  by_cases h:cp=j
  ·refine⟨⟨bk,0,none⟩,by simp[h],fun t u hu=>?_⟩
   have h0:news.length=0:=by rw[hlen];have:xs.length-j=0:=by omega
                             rw[this,ir]
   rw[dK.1 h0]at hu;simp at hu
  ·refine⟨⟨bk,j*16,none⟩,by simp[h],fun t u hu=>?_⟩;have ht:t<(xs.length-j)*16:=by
    have:=(List.getElem?_eq_some_iff.1 hu).1;omega
   have nC:xs.flatten[j*16+t]?=some u:=by
    have e:xs.flatten=(xs.take j).flatten++(xs.drop j).flatten:=by rw[<-ey,fS]
    have hl:(xs.take j).flatten.length=j*16:=by rw[gJ (fun x hx=>(ef x (ed hx)).1),aJ,dP hj]
    rw[e,List.getElem?_append_right ab,hl,show j*16+t-j*16=t from ab, <-kT];exact hu
   have hjt:j*16+t<xs.length*16:=by
    have:(xs.length-j)*16+j*16=xs.length*16:=by rw[<-dI];congr 1;omega
    omega
   rw[<-q6,List.getElem?_take_of_lt hjt]at nC;have Ab:cur[j*16+t]?=some u:=by simpa using nC
   have ea:(Addr.add ⟨bk,j*16,none⟩ t)=⟨bk,j*16+t,none⟩:=by unfold Addr.add;split<;>simp_all
   rw[ea];show w.cell? _=some u;simp[World.cell?,q2,Ab]
 have s1:=O hlen;have s2:=O (show∀u∈news,u.oneCell'=true by
  intro u hu;rw[kT]at hu;obtain⟨x,hx,GX⟩:=fR.1 hu;exact(hdr x hx).2 u GX)
 have s3:=O (show∀t,t<news.length->(w.drew.cell? ⟨bk,0+i*16+t,none⟩).isSome=true/\w.drew.frozen? ⟨bk,0+i*16+t,none⟩=false by
  intro t ht;rw[bz];have hle:i*16+(xs.length-j)*16<=cp*16:=by rw[<-dI];exact bR _ ab
  have:=hv.there (g:=bk) (cap:=cp) rfl (o:=i*16) (n:=(xs.length-j)*16) hle t ab;exact this)
 have VA:OwnRows b 114 16 w.drew (.slice (some ⟨bk,0,none⟩) xs.length cp) xs:=hv;have qI:=VA.DD (i:=i) (ys:=xs.drop j) ab hdr (g:=bk) (cap:=cp) rfl (by rw[bM];omega);rw[bM, <-kT]at qI;have yQ:Fr (one bk) w (w.drew.setCells bk (i*16) news):=((ae (one bk) w).drew).setCells (fun _=>rfl) _ _;obtain⟨W1,CH⟩:∃W1,W1=w.drew.setCells bk (0+i*16) news:=⟨_,rfl⟩;have HW:=O CH;rw[bz]at CH;rw[<-CH]at qI yQ
 have se:(xs.take i++xs.drop j).length=i+(xs.length-j):=by rw[aK,aJ,bM];omega
 have hm:i+(xs.length-j)<xs.length:=ab;have CJ:(Builtin.zeroCells ZZ (xs.length-(i+(xs.length-j)))).toList.length=(xs.length-(i+(xs.length-j)))*16:=by simp[Builtin.zeroCells]
 have hle:(i+(xs.length-j))*16+(xs.length-(i+(xs.length-j)))*16<=cp*16:=by rw[<-dI];exact bR _ ab
 have xY:=fun ty=>jM (P:=prog) W1 77 114 ty ZZ underlying77 (fun w=>af) ag QA bk ((i+(xs.length-j))*16) (xs.length-(i+(xs.length-j))) (cp-(i+(xs.length-j))) ab (by
  have:=qI.there (g:=bk) (cap:=cp) (by rw[se]) (o:=(i+(xs.length-j))*16) (n:=(xs.length-(i+(xs.length-j)))*16) hle;exact this)
 have yP:=qI.behind (o:=(i+(xs.length-j))*16) (vs:=(Builtin.zeroCells ZZ (xs.length-(i+(xs.length-j)))).toList) (by rw[se];exact ay _) (g:=bk) (cap:=cp) (by rw[se]) (by rw[CJ];omega);have oI:=yQ.step (fL (ae (one bk) W1) (fun _=>rfl) (Builtin.zeroCells ZZ (xs.length-(i+(xs.length-j)))).toList ((i+(xs.length-j))*16)) (fun _ _ h=>h);have hne:((i:Int)==(j:Int))=false:=by rw[aO];omega
 have aeg:i<=cp:=ab;have aeh:j<=cp:=ab;have HA:=O hA;clear CH qI VA yQ kT hlen hdr ef dS se CJ hle q2 q5 q6 hv;go_enter func95,ntmps95;go_wp2_with fail
 have hA:=HA.o;go_region_law (refine step_append_room rfl (.tmp 22) (.tmp 25) 77 rfl 114 i0 16 underlying77 qN ll bk 0 i cp (by simp[Act.eval,Act.put]) A (xs.length-j) (cp-j) news (by simp[Act.eval,Act.put]) s1.o Od.out s2.o ab s3.o ?_;rw[<-HW.o])
 all_goals
  go_wp2_with fail
  go_ret;exact⟨rfl,yP,oI⟩
