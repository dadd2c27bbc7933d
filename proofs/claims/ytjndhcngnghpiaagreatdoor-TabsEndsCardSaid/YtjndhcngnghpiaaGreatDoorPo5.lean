/- Lemmas for the law's walk. -/
import Derived.Test.YtjndhcngnghpiaaGreatDoorPo4
import Derived.Deep.RegionHeld3
import Derived.StillTailTactics
set_option maxRecDepth 100000
set_option maxHeartbeats 16000000
set_option linter.unusedSimpArgs false
namespace Go.Proofs.YtjndhcngnghpiaaGreatDoor
open Go.Proofs.Tryz
open Go.RowKit
variable {w w':World} {base n c:Nat} {ss:List ai} {v:Value} {gs:List (aU bE)} {S:dz}
def CW:List Int:=[1116352408,1899447441,3049323471,3921009573,961987163,1508970993,2453635748,2870763221,3624381080,310598401,607225278,1426881987,1925078388,2162078206,2614888103,3248222580,3835390401,4022224774,264347078,604807628,770255983,1249150122,1555081692,1996064986,2554220882,2821834349,2952996808,3210313671,3336571891,3584528711,113926993,338241895,666307205,773529912,1294757372,1396182291,1695183700,1986661051,2177026350,2456956037,2730485921,2820302411,3259730800,3345764771,3516065817,3600352804,4094571909,275423344,430227734,506948616,659060556,883997877,958139571,1322822218,1537002063,1747873779,1955562222,2024104815,2227730452,2361852424,2428436474,2756734187,3204031479,3329325298]
def Tf:List Int:=[1779033703,3144134277,1013904242,2773480762,1359893119,2600822924,528734635,1541459225]
structure t_ (w:World):Prop where
 r:oC w 2 .u32 CW
 b:oC w 1 .u32 Tf
theorem t_.fr(h:t_ w)(hf:Fr aW w w'):t_ w':=⟨h.r.fr hf,h.b.fr hf⟩
def JD(a b c:Int):Int:=bits .xor .u32 (bits .xor .u32 a b) c
def abI(x:Int):Int:=JD (lN x 25) (lN x 14) (x/8)
def abJ(y:Int):Int:=JD (lN y 15) (lN y 13) (y/1024)
def Ff(X:aH)(l:List Int)(i:Nat):Int:=if i<16 then qt false (X.drop (4*i))else(l.getD (i-16) 0+l.getD (i-7) 0+abI (l.getD (i-15) 0)+abJ (l.getD (i-2) 0))%4294967296
def Fg(X:aH)(l:List Int)(i:Nat):List Int:=l++[Ff X l i]
def Wc(X:aH):Nat->List Int
 |0=>[]
 |i+1=>Fg X (Wc X i) i
theorem Ow(X:aH):∀i,(Wc X i).length=i
 |0=>rfl
 |i+1=>by rw[Wc,Fg,aM,Ow X i];rfl
theorem rb(x:Int)(w:World)(j n:Nat)(h:(decide (0<j/\j<32/\n<32/\bits .and .u64 (-(j:Int)+18446744073709551616) 31=(n:Int)))=true) :
  aC 239 #[.int .u32 x,.int .i64 (-(j:Int))] w fun e w'=>e=.returned (.int .u32 (lN x n))/\w'=w:=by
 have h:=of_decide_eq_true h;exact(XB x (-(j:Int)) n w ab ab h.2.2.2 h.2.2.1).mono fun _ _ ⟨he,hw⟩=>⟨he,hw.symm⟩
theorem ald(x:Int)(w:World):aC 239 #[.int .u32 x,.int .i64 (-7)] w fun e w'=>e=.returned (.int .u32 (lN x 25))/\w'=w:=rb x w 7 25 dp
theorem afz(x:Int)(w:World):aC 239 #[.int .u32 x,.int .i64 (-18)] w fun e w'=>e=.returned (.int .u32 (lN x 14))/\w'=w:=rb x w 18 14 dp
theorem afA(x:Int)(w:World):aC 239 #[.int .u32 x,.int .i64 (-17)] w fun e w'=>e=.returned (.int .u32 (lN x 15))/\w'=w:=rb x w 17 15 dp
theorem afB(x:Int)(w:World):aC 239 #[.int .u32 x,.int .i64 (-19)] w fun e w'=>e=.returned (.int .u32 (lN x 13))/\w'=w:=rb x w 19 13 dp
theorem ale(x:Int)(w:World):aC 239 #[.int .u32 x,.int .i64 (-6)] w fun e w'=>e=.returned (.int .u32 (lN x 26))/\w'=w:=rb x w 6 26 dp
theorem afC(x:Int)(w:World):aC 239 #[.int .u32 x,.int .i64 (-11)] w fun e w'=>e=.returned (.int .u32 (lN x 21))/\w'=w:=rb x w 11 21 dp
theorem afD(x:Int)(w:World):aC 239 #[.int .u32 x,.int .i64 (-25)] w fun e w'=>e=.returned (.int .u32 (lN x 7))/\w'=w:=rb x w 25 7 dp
theorem alf(x:Int)(w:World):aC 239 #[.int .u32 x,.int .i64 (-2)] w fun e w'=>e=.returned (.int .u32 (lN x 30))/\w'=w:=rb x w 2 30 dp
theorem afE(x:Int)(w:World):aC 239 #[.int .u32 x,.int .i64 (-13)] w fun e w'=>e=.returned (.int .u32 (lN x 19))/\w'=w:=rb x w 13 19 dp
theorem afF(x:Int)(w:World):aC 239 #[.int .u32 x,.int .i64 (-22)] w fun e w'=>e=.returned (.int .u32 (lN x 10))/\w'=w:=rb x w 22 10 dp
structure Sh where
 v0:Int
 v1:Int
 v2:Int
 v3:Int
 v4:Int
 v5:Int
 v6:Int
 v7:Int
def uT(w:World)(g:Nat)(h:Sh):Prop:=w.heap[g]?=some (.cells #[.int .u32 h.v0,.int .u32 h.v1,.int .u32 h.v2,.int .u32 h.v3,.int .u32 h.v4,.int .u32 h.v5,.int .u32 h.v6,.int .u32 h.v7] 293 (0,0))
def shP(ws:List Int)(k:Nat)(v:Sh):Int:=(v.v7+JD (lN v.v4 26) (lN v.v4 21) (lN v.v4 7)+bits .xor .u32 (bits .and .u32 v.v4 v.v5) (bits .and .u32 (L' v.v4) v.v6)+CW.getD k 0+ws.getD k 0)%4294967296
def shQ(v:Sh):Int:=(JD (lN v.v0 30) (lN v.v0 19) (lN v.v0 10)+JD (bits .and .u32 v.v0 v.v1) (bits .and .u32 v.v0 v.v2) (bits .and .u32 v.v1 v.v2))%4294967296
def Tg(v:Sh)(p q:Int):Sh:=⟨(p+q)%4294967296,v.v0,v.v1,v.v2,(v.v3+p)%4294967296,v.v4,v.v5,v.v6⟩
def yR(ws:List Int)(h:Sh):Nat->Sh
 |0=>h
 |k+1=>Tg (yR ws h k) (shP ws k (yR ws h k)) (shQ (yR ws h k))
def Ox(h v:Sh):Sh:=⟨(h.v0+v.v0)%4294967296,(h.v1+v.v1)%4294967296,(h.v2+v.v2)%4294967296,(h.v3+v.v3)%4294967296,(h.v4+v.v4)%4294967296,(h.v5+v.v5)%4294967296,(h.v6+v.v6)%4294967296,(h.v7+v.v7)%4294967296⟩
def yS(X:aH)(h:Sh):Sh:=Ox h (yR (Wc X 64) h 64)
def sh0:Sh:=⟨1779033703,3144134277,1013904242,2773480762,1359893119,2600822924,528734635,1541459225⟩
def Ag(T:aH):Nat->Sh
 |0=>sh0
 |k+1=>yS (T.drop (64*k)) (Ag T k)
def Sh.list(s:Sh):List Int:=[s.v0,s.v1,s.v2,s.v3,s.v4,s.v5,s.v6,s.v7]
def JE(l:aH):aH:=oA false (Ag (uR false l) ((uR false l).length/64)).list
def afH(T:ai)(g:Nat)(w:World)(t:Value)(wr:World):Prop:=∃k:Nat,64*k<=T.size/\t=.string (T.extract (64*k) T.size)/\uT wr g (Ag T.data.toList k)/\Fr aW w wr
def qj(w:World)(g:Nat)(l:List Int):Prop:=w.heap[g]?=some (.cells ((l++List.replicate (64-l.length) 0).map (Value.int .u32)).toArray 295 (0,0))
theorem OG:∀l:aH,(uU l).length=(l.length+2)/3*4
 |[]=>rfl
 |[_]=>by simp[uU]
 |[_,_]=>by simp[uU]
 |a :: b :: c :: r=>by
  have ih:=OG r;simp only[uU,List.length_cons]at ih ⊢;omega
open Go.RowKit Go.Shelf
attribute [local go_sem] Oper.semAt_some
theorem Mk(s:ai)(c:UInt8)(w:World) :
  aC 156 #[.string s,.string ⟨#[c]⟩] w fun e w'=>e=.returned (.int .i64 (Lib.indexByte s.data.toList c))/\w'=w:=by
 go_enter func156,ntmps156;go_wp2_with fail
 refine(stringslite_Index_one s c w).mono ?_;rintro e w1⟨rfl,rfl⟩;go_wp2;go_ret;exact⟨rfl,rfl⟩
def Tr(w:World)(k:Nat):Nat:=match w.cell? ⟨k,0,none⟩with
 |some (.string s)=>s.size+1
 |_=>0
theorem BB(s:ai)(k n:Nat)(w:World)(hn:1<=n)(hs:s.size<100000)
  (h0:w.heap[k]?=some (.cells #[.string s] 9 (0,0)))(h1:w.heap[k+1]?=some (.cells #[.string ⟨#[46]⟩] 9 (0,0)))(h2:w.heap[k+2]?=some (.cells #[.int .i64 0] 3 (0,0))) :
  Tn Fence.wide n prog 233 #[.pointer (some ⟨k+1,0,none⟩),.pointer (some ⟨k,0,none⟩),.pointer (some ⟨k+2,0,none⟩)] (fun x:ai=>Value.string x) k (iJ 46 s) w:=by
 intro l J Jx W hfW hJ hJx hY hJ0;have b0:=hfW.keep h0 id;have b1:=hfW.keep h1 id;have b2:=hfW.keep h2 id;have c0:W.cell? ⟨k,0,none⟩=some (.string s):=by simp[World.cell?,b0]
 have c1:W.cell? ⟨k+1,0,none⟩=some (.string ⟨#[46]⟩):=by simp[World.cell?,b1]
 refine callsIn_of_wp func233 rfl trivial ?_ rfl;simp only[ntmps233,ba,List.length_cons,List.length_nil,Nat.reduceAdd,Nat.reduceSub,Array.replicate_succ,Array.replicate_zero,List.push_toArray,List.append_toArray,List.nil_append,List.cons_append];gi_wp2
 gi_loopw [] (fun wr=>∃(pre:List ai) (r:ai),pre++iJ 46 r=iJ 46 s/\r.size<=s.size/\wr.heap[k]?=some (.cells #[.string r] 9 (0,0))/\wr.heap[k+1]?=some (.cells #[.string ⟨#[46]⟩] 9 (0,0))/\wr.heap[k+2]?=some (.cells #[.int .i64 0] 3 (0,0))/\J pre wr) (fun wr=>Tr wr k)
 case atStart=>exact⟨[],s,rfl,ay _,b0,b1,b2,hJ0⟩
 case round =>
  obtain⟨pre,r,yk,hrs,d0,d1,d2,hj⟩:=hrel;have e0:wr.cell? ⟨k,0,none⟩=some (.string r):=by simp[World.cell?,d0]
  have e1:wr.cell? ⟨k+1,0,none⟩=some (.string ⟨#[46]⟩):=by simp[World.cell?,d1]
  have e2:wr.cell? ⟨k+2,0,none⟩=some (.int .i64 0):=by simp[World.cell?,d2]
  gi_wp2_with fail
  refine⟨trivial,?_⟩;refine(callsIn_wide.2 (Mk r 46 wr)).mono ?_;rintro e u⟨rfl,rfl⟩;by_cases wA:0<=Lib.indexByte r.data.toList 46
  ·obtain⟨i,hi⟩:∃i:Nat,Lib.indexByte r.data.toList 46=(i:Int):=⟨(Lib.indexByte r.data.toList 46).toNat,ab⟩;have hil:i<r.size:=by have:=Tq hi;simpa using this
   have HPH:=O (C7 46 r i hi);rw[hi];clear hi wA;have q0:¬(i:Int)<0:=ab;have q1:(0:Int)<=(i:Int):=ab;have q2:(i:Int)<=(r.size:Int):=ab;have q3:(i:Int)+1<=(r.size:Int):=ab;have q4:(0:Int)<=(i:Int)+1:=ab;obtain⟨fn,tmps,assign,body,hy,hR⟩:=hY pre (r.extract 0 i) u hj ⟨iJ 46 (r.extract (i+1) r.size),by rw[cH,List.singleton_append, <-HPH.o];exact yk⟩;gi_wp2;refine hR.mono ?_
   rintro e W3(⟨rfl,hJ3,GG⟩|⟨rfl,xf⟩)
   ·have f0:=(GG k ab ab).trans d0;have f1:=(GG (k+1) ab ab).trans d1;have f2:=(GG (k+2) ab ab).trans d2;clear e0 e1 e2 GG;have e0:W3.cell? ⟨k,0,none⟩=some (.string r):=by simp[World.cell?,f0]
    have e1:W3.cell? ⟨k+1,0,none⟩=some (.string ⟨#[46]⟩):=by simp[World.cell?,f1]
    have e3:W3.frozen? ⟨k,0,none⟩=false:=by simp[World.frozen?,f0]
    gi_wp2;have g0:(W3.setCell ⟨k,0,none⟩ (.string (r.extract (i+1) r.size))).heap[k]?=some (.cells #[.string (r.extract (i+1) r.size)] 9 (0,0)):=by simp[World.setCell,Array.getElem?_modify,f0]
    have hz:(r.extract (i+1) r.size).size=r.size-(i+1):=by rw[f_];omega
    refine⟨⟨pre++[r.extract 0 i],r.extract (i+1) r.size,by rw[cH,List.singleton_append, <-HPH.o];exact yk,ab,g0,(Below.heap_setCell _ _ _ _ aQ).trans f1,(Below.heap_setCell _ _ _ _ aQ).trans f2,hJ _ _ _ hJ3 ((ae (fun j=>j=k) W3).setCell (p:=⟨k,0,none⟩) (fun _=>rfl) _)⟩,?_⟩;unfold Tr;simp only[World.cell?,g0,d0];simp;omega
   ·gi_wp2;refine aR (results_none rfl _ _ _) rfl ?_;exact⟨⟨_,rfl⟩,.inr ⟨pre++[r.extract 0 i],⟨iJ 46 (r.extract (i+1) r.size),by rw[cH,List.singleton_append, <-HPH.o];exact yk⟩,xf⟩⟩
  ·have HPM:=O (show pre++[r]=iJ 46 s by rw[<-Ba 46 r wA];exact yk);obtain⟨fn,tmps,assign,body,hy,hR⟩:=hY pre r u hj ⟨[],by rw[dI];exact HPM.o⟩;have q0:Lib.indexByte r.data.toList 46<0:=ab;clear wA;gi_wp2;refine hR.mono ?_;rintro e W3(⟨rfl,hJ3,GG⟩|⟨rfl,xf⟩)
   ·gi_wp2;go_end0;exact⟨⟨_,rfl⟩,.inl (by rw[<-HPM.o];exact hJ3)⟩
   ·gi_wp2;go_end0;exact⟨⟨_,rfl⟩,.inr ⟨pre++[r],⟨[],by rw[dI];exact HPM.o⟩,xf⟩⟩
theorem Strs.pop{a:Addr}{x:ai}(h:Strs base w (.slice (some a) n c) (ss++[x])):Strs base w (.slice (some a) ss.length c) ss:=by
 obtain⟨h1,h2⟩:=h;rcases h2 with ⟨hv,_⟩|⟨g,cap,cur,hv,hg,hh,h3,h4,h5,h6⟩
 ·cases hv
 ·cases hv;refine⟨aQ,Or.inr ⟨g,c,cur,rfl,hg,hh,?_,h4,h5,?_⟩⟩
  ·simp at h3;omega
  ·have e:(cur.toList.take (ss.length*1))=(cur.toList.take ((ss++[x]).length*1)).take ss.length:=by
    rw[ke];congr 1;simp
   rw[e,h6];simp
theorem Strs.Ts(h:Strs base w (.slice none n c) ss):ss=[]:=by
 rcases h.2 with ⟨_,hn⟩|⟨g,cap,cur,hq,_⟩
 ·exact bZ hn
 ·cases hq
theorem Strs.cap{base:Nat}{w:World}{a:eZ}{n c:Nat}{ss:List ai}(h:Strs base w (.slice a n c) ss):ss.length<=c:=by
 rcases h.2 with ⟨hq,hn⟩|⟨g,cap,cur,hq,_,_,h3,_⟩
 ·rw[hn];exact aS _
 ·cases hq;exact h3
theorem P2{α:Type}{l:List α}{k:Nat}{x:α}(h:l[k]?=some x):l.drop k=x :: l.drop (k+1):=by
 obtain⟨hk,e⟩:=List.getElem?_eq_some_iff.1 h;rw[cM hk,e]
theorem nL(l:List (aH))(p:aH):dM (l++[p])=dM l++[⟨p.toArray⟩]:=by unfold dM;simp
theorem fo(l:List (aH)):(dM l).length=l.length:=by unfold dM;simp
theorem yW(c:UInt8):∀l:aH,(dU c l).length<=l.length+1
 |[]=>by simp[dU]
 |x :: l=>by
  have ih:=yW c l;have hne:=wk c l;by_cases h:x=c
  ·subst h;rw[qZ];simp;omega
  ·cases e:dU c l with
   |nil=>exact absurd e hne
   |cons p ps=>rw[nU h e];rw[e]at ih;simp at ih ⊢; omega
theorem C8{l:List (aH)}(h:Strs base w (.slice none n c) (dM l)):l.length=0:=by
 rw[<-fo l,Strs.Ts h];rfl
theorem Tt(l:List (aH))(p:aH)(last:Bool):(gX l p last).length<=l.length+1:=by
 have hp:(yx l).length<=l.length:=by unfold yx;split<;>simp
 unfold gX;split
 ·split<;>simp<;>omega
 ·split
  ·split<;>simp
  ·simp
theorem join_eq(l:List (aH)):Lib.join ((dM l).map (·.data.toList)) [47]=vq 47 l:=by
 have e:(dM l).map (·.data.toList)=l:=by unfold dM;rw[g_];simp[Function.comp_def]
 rw[e]
 induction l with
 |nil=>rfl
 |cons p ps ih =>
  cases ps with
  |nil=>simp[Lib.join,vq]
  |cons q qs =>
   have ih':=ih (by unfold dM;rw[g_];simp[Function.comp_def]);rw[vq, <-ih'];simp[Lib.join]
theorem P3(v:Value)(l:List (aH))(w:World)(hv:ib w v (dM l))(hn:l.length<=140737488355328)(hlen:(vq 47 l).length<=140737488355328) :
  aC 206 #[v,.string ⟨#[47]⟩] w fun e w'=>e=.returned (.string ⟨(vq 47 l).toArray⟩)/\Fr aW w w':=by
 have ej:=join_eq l;rcases hv with ⟨a,c,rfl,hs,_⟩|⟨bk,o,c,rfl,h1,h2,h3,h4⟩
 ·have hl:l=[]:=by cases l with|nil=>rfl|cons p ps=>simp[dM]at hs
  subst hl;exact(strings_Join_none _ _ _ _).mono (by rintro e w1 ⟨rfl,rfl⟩;exact⟨rfl,ae _ _⟩)
 ·refine(strings_Join bk o c (dM l) ⟨#[47]⟩ w h4 h3 (by rw[fo];exact hn) h1 (by show(Lib.join _ [47]).length<=_;rw[ej];exact hlen)).mono ?_;rintro e w1⟨rfl,hb⟩;refine⟨?_,fe hb⟩;show Ending.returned (.string ⟨(Lib.join _ [47]).toArray⟩)=_;rw[ej]
def afX(s:aH)(base:Nat)(w1:World)(parts:List (aH))(v i:Value)(wr:World):Prop :=
 ∃(k:Nat) (l:List (aH)),k<=parts.length/\i=.int .i64 k/\Strs base wr v (dM l)/\l.length<=k/\pD l (parts.drop k)=mh s/\Fr aW w1 wr
theorem P4(s:ai):∃t:ai,t.data.toList=AU s.data.toList/\t.size<=s.size+1/\(Lib.hasPrefix s.data.toList [47]=true->t=s)/\(Lib.hasPrefix s.data.toList [47]=false->t=⟨#[47]⟩++s):=by
 have hp:Lib.hasPrefix s.data.toList [47]=true↔s.data.toList.head?=some 47:=by
  cases h:s.data.toList with
  |nil=>simp[Lib.hasPrefix]
  |cons a l=>simp[Lib.hasPrefix];exact eq_comm
 cases h:Lib.hasPrefix s.data.toList [47]
 ·have h1:(⟨#[47]⟩:ai).size=1:=rfl;refine⟨⟨#[47]⟩++s,?_,by rw[iQ,h1];omega,(fun e=>by cases e),fun _=>rfl⟩;unfold AU;rw[ar (fun e=>by rw[hp.2 e]at h;cases h)];simp
 ·refine⟨s,?_,ab,fun _=>rfl,(fun e=>by cases e)⟩;unfold AU;rw[aA (hp.1 h)]
theorem P5(s:aH):(AU s).length<=s.length+1:=by unfold AU;split<;>simp
theorem join_le(c:UInt8):∀ps:List (aH),(vq c ps).length<=(ps.map fun p=>p.length+1).sum
 |[]=>by simp[vq]
 |[p]=>by simp[vq]
 |p :: q :: ps=>by
  have ih:=join_le c (q :: ps);rw[vq];simp at ih ⊢;omega
theorem JM(f:aH->Nat):∀l:List (aH),((l.dropLast).map f).sum<=(l.map f).sum
 |[]=>aQ
 |[p]=>aQ
 |p :: q :: ps=>by
  have ih:=JM f (q :: ps);rw[List.dropLast_cons_of_ne_nil aQ];simp at ih ⊢;omega
theorem Tu:∀(ps l:List (aH)),((pD l ps).map fun p=>p.length+1).sum<=(l.map fun p=>p.length+1).sum+(ps.map fun p=>p.length+1).sum
 |[],l=>by simp[pD]
 |p :: ps,l=>by
  have ih:=Tu ps (gX l p ps.isEmpty);have arW:((yx l).map fun p=>p.length+1).sum<=(l.map fun p=>p.length+1).sum:=by
   unfold yx;split
   ·exact JM _ l
   ·exact ay _
  have iM:((gX l p ps.isEmpty).map fun p=>p.length+1).sum<=(l.map fun p=>p.length+1).sum+(p.length+1):=by
   unfold gX;split
   ·split
    ·simp only[bD,List.sum_append,cz,cY,List.sum_cons,List.sum_nil,List.length_nil];omega
    ·omega
   ·split
    ·split
     ·simp only[bD,List.sum_append,cz,cY,List.sum_cons,List.sum_nil,List.length_nil];omega
     ·omega
    ·simp only[bD,List.sum_append,cz,cY,List.sum_cons,List.sum_nil];omega
  show((pD (gX l p ps.isEmpty) ps).map fun p=>p.length+1).sum<=_;simp at ih iM ⊢;omega
theorem Ai(c:UInt8):∀l:aH,((dU c l).map fun p=>p.length+1).sum<=l.length+1
 |[]=>by simp[dU]
 |x :: l=>by
  have ih:=Ai c l;have hne:=wk c l;by_cases h:x=c
  ·subst h;rw[qZ];simp at ih ⊢; omega
  ·cases e:dU c l with
   |nil=>exact absurd e hne
   |cons p ps=>rw[nU h e];rw[e]at ih;simp at ih ⊢; omega
theorem P6(s:aH):(ov s).length<=s.length+2:=by
 have h1:=join_le 47 (mh s);have h2:=Tu (dU 47 (AU s)) [];have h3:=Ai 47 (AU s);have h4:=P5 s;unfold ov;unfold mh at h1 ⊢;simp at h1 h2 h3 h4 ⊢;omega
theorem P7(s:ai)(w:World)(hs:s.size<100000) :
  aC 179 #[.string s] w fun e w'=>e=.returned (.string ⟨(ov s.data.toList).toArray⟩)/\Fr aW w w':=by
 obtain⟨t,ht,V6,RI,N8⟩:=P4 s;obtain⟨parts,C9⟩:∃parts,parts=dU 47 t.data.toList:=⟨_,rfl⟩;have D7:parts.length<=100001:=by rw[C9];have:=yW 47 t.data.toList;simp at this;omega
 have Wf:iJ 47 t=dM parts:=by rw[C9];rfl
 have HGO:=O (show pD [] parts=mh s.data.toList by rw[C9,ht];rfl);have Eo:=O (show(ov s.data.toList).length<=140737488355328 by have:=P6 s.data.toList;simp at this;omega);obtain⟨W,hW⟩:∃W,W=w.alloc (.cells ((iJ 47 t).map Value.string).toArray 9):=⟨_,rfl⟩;have hfW:Fr aW w W:=by rw[hW];exact(ae aW w).alloc _
 have hzW:W.heap.size=w.heap.size+1:=by rw[hW];simp
 have lL:W.heap[w.heap.size]?=some (.cells ((iJ 47 t).map Value.string).toArray 9 (0,0)):=by rw[hW];exact aB _ _
 have xy:=O ((xR t 47 w ab).mono (fun e w' h=>by rw[<-hW,Wf,fo]at h;exact⟨h.1,h.2.symm⟩):aC 131 #[.string t,.string ⟨#[47]⟩] w fun e w'=>e=.returned (.slice (some ⟨w.heap.size,0,none⟩) parts.length parts.length)/\W=w');rw[Wf]at lL;clear hW Wf;have afY:=O (show∀U,Fr aW W U->∀(k:Nat) p,parts[k]?=some p->U.cell? ⟨w.heap.size,k,none⟩=some (.string ⟨p.toArray⟩)from fun U hU k p hp=>by
  have:=hU.keep lL id;simp[World.cell?,this,dM,hp])
 clear lL;have Tv:∀(v:Value) (wr:World) (l:List (aH)),Strs (w.heap.size+1) wr v (dM l)->l.length<=100001->l=mh s.data.toList->Fr aW W wr ->
   aC 206 #[v,.string ⟨#[47]⟩] wr fun e w'=>e=.returned (.string ⟨(ov s.data.toList).toArray⟩)/\Fr aW w w':=fun v wr l hv hl e hf=>by
  have:=(P3 v l wr hv.at ab (by rw[e];exact Eo.o)).mono (R':=fun e w'=>e=.returned (.string ⟨(ov s.data.toList).toArray⟩)/\Fr aW w w') (fun e' w' ⟨h1,h2⟩=>⟨by rw[h1,e];rfl,(hfW.trans hf).trans h2⟩);exact this
 have Tv:=O Tv;have afZ:=O (show aC 178 #[.string s,.string ⟨#[47]⟩] w fun e w'=>e=.returned (.bool (Lib.hasPrefix s.data.toList (⟨#[47]⟩:ai).data.toList))/\w=w' from(strings_HasPrefix s ⟨#[47]⟩ w).mono fun e w' h=>⟨h.1,h.2.symm⟩);cases uV:Lib.hasPrefix s.data.toList [47]
 case' false =>
  have e:=N8 uV;have Tw:=xy.o;rw[e]at Tw;clear RI N8 ht e C9;go_enter func179,ntmps179;go_wp2_with fail
  refine afZ.o.mono ?_;rintro e u⟨rfl,rfl⟩;rw[show Lib.hasPrefix s.data.toList (⟨#[47]⟩:ai).data.toList=false from uV];go_wp2_with fail
  refine Tw.mono ?_;rintro e u⟨rfl,rfl⟩
 case' true =>
  have e:=RI uV;have Tw:=xy.o;rw[e]at Tw;clear RI N8 ht e C9;go_enter func179,ntmps179;go_wp2_with fail
  refine afZ.o.mono ?_;rintro e u⟨rfl,rfl⟩;rw[show Lib.hasPrefix s.data.toList (⟨#[47]⟩:ai).data.toList=true from uV];go_wp2_with fail
  refine Tw.mono ?_;rintro e u⟨rfl,rfl⟩
 all_goals
  go_wp2;go_loopw[3,17] (afX s.data.toList (w.heap.size+1) W parts) (fun _ i _=>parts.length-(intOf i).toNat)
  case atStart=>exact⟨0,[],aS _,rfl,kD _ _,ay _,by rw[eC];exact HGO.o,ae _ _⟩
  case round =>
   obtain⟨k,l,hk,rfl,hv,hlk,hgo,cN⟩:=hrel;have HG:=O hgo;clear hgo;obtain⟨av,cv,JN⟩:=hv.form;rw[fo]at JN;subst JN;have Bp:w.heap.size+1<=wr.heap.size:=by have:=cN.size;omega
   by_cases fx:k<parts.length
   ·have qp:(k:Int)<(parts.length:Int):=ab;obtain⟨p,hp⟩:∃p,parts[k]?=some p:=⟨_,List.getElem?_eq_getElem fx⟩;have hcell:=afY.o wr cN k p hp;have RL:=O (show pD l (parts.drop k)=pD (gX l p (parts.drop (k+1)).isEmpty) (parts.drop (k+1))by rw[P2 hp];rfl);clear hp;have B7:(⟨p.toArray⟩:ai).toList=p:=by rw[aN]
    obtain⟨pb,Wf⟩:∃pb:ai,pb=⟨p.toArray⟩:=⟨_,rfl⟩;rw[<-Wf]at hcell B7;have HPB:=O Wf;clear Wf;have Ep:=O (show∀(l':List (aH)),l'=gX l p (parts.drop (k+1)).isEmpty->l'.length<=k+1/\pD l' (parts.drop (k+1))=mh s.data.toList from fun l' e=>by
     have:=Tt l p (parts.drop (k+1)).isEmpty;rw[e];exact⟨ab,by rw[<-RL.o];exact HG.o⟩)
    by_cases hla:k+1=parts.length
    ·have HE:=O (show(parts.drop (k+1)).isEmpty=true by rw[hla];simp);have hl1:((k:Int)==(parts.length:Int)-1)=true:=dQ.2 ab;clear hla;by_cases tO:p=Su
     ·subst tO;have D7:pb.toList=[46,46]:=B7;clear B7;by_cases hlen:1<l.length
      ·have hli:(1:Int)<(l.length:Int):=ab;obtain⟨l0,x,RM⟩:∃l0 x,l=l0++[x]:=⟨l.dropLast,l.getLast (by intro e;rw[e]at hlen;simp at hlen),(List.dropLast_concat_getLast _).symm⟩;have hll:l.length=l0.length+1:=by rw[RM];simp
       obtain⟨ad,had⟩:∃ad,av=some ad:=by
        cases av with
        |none=>exact absurd (C8 hv) ab
        |some ad=>exact⟨ad,rfl⟩
       subst had;have Ml:=O (show yx l=l0 by unfold yx;rw[aA hlen,RM];simp);rw[RM,nL]at hv;rw[hll];rw[show(l0++[x]).length=(dM l0).length+1 from by rw[fo];simp]at hv;replace hv:=Strs.pop hv;rw[fo]at hv;have q1:(0:Int)<=(l0.length:Int):=ab;have q4:(l0.length:Int)<=(cv:Int):=by have:=Strs.cap hv;rw[fo]at this;omega
       have q5:l0.length<=cv:=ab;have q2:(1:Int)<(l0.length:Int)+1:=ab;have q3:(l0.length:Int)+1-1=(l0.length:Int):=ab;clear hli RM;have HX:=O (Ep.o (l0++[[]]) (by unfold gX;rw[aA rfl,HE.o,Ml.o];rfl))
       go_wp2_with (at_builtin;refine nF rfl _ _ rfl (w.heap.size+1) (.slice (some ad) _ cv) (dM l0) rfl (by apply im;exact hv) ⟨wr.heap.size,0,none⟩ 1 ⟨#[]⟩ rfl (je _ _ _ _) (by rw[fo];omega) bF ?_;intro v2 w3 Cj BQ)
       have ij:=O ((cN.alloc (.cells #[.string ⟨#[]⟩] 9)).fH BQ (fun j hj=>by have:=hv.block j hj;omega));go_roundw
       case rel=>exact⟨k+1,l0++[[]],ab,bf,by rw[nL];exact Cj,(HX.o).1,(HX.o).2,ij.o⟩
       case measure=>simp[intOf];omega
      ·have hli:¬(1:Int)<(l.length:Int):=ab;have Ml:=O (show yx l=l by unfold yx;rw[ar hlen]);have HX:=O (Ep.o (l++[[]]) (by unfold gX;rw[aA rfl,HE.o,Ml.o];rfl));go_wp2_with (at_builtin;refine nF rfl _ _ rfl (w.heap.size+1) (.slice av _ cv) (dM l) rfl (by apply im;exact hv) ⟨wr.heap.size,0,none⟩ 1 ⟨#[]⟩ rfl (je _ _ _ _) (by rw[fo];omega) bF ?_;intro v2 w3 Cj BQ)
       have ij:=O ((cN.alloc (.cells #[.string ⟨#[]⟩] 9)).fH BQ (fun j hj=>by have:=hv.block j hj;omega));go_roundw
       case rel=>exact⟨k+1,l++[[]],ab,bf,by rw[nL];exact Cj,(HX.o).1,(HX.o).2,ij.o⟩
       case measure=>simp[intOf];omega
     ·have abR:¬pb.toList=[46,46]:=fun e=>tO (B7.symm.trans e);have alN:(pb.toList== [46,46])=false:=aK.2 abR;by_cases Bo:p=abd
      ·subst Bo;have D7:pb.toList=[46]:=B7;clear B7;have HX:=O (Ep.o (l++[[]]) (by unfold gX;rw[ar tO,aA rfl,HE.o];rfl));clear tO;go_wp2_with (at_builtin;refine nF rfl _ _ rfl (w.heap.size+1) (.slice av _ cv) (dM l) rfl (by apply im;exact hv) ⟨wr.heap.size,0,none⟩ 1 ⟨#[]⟩ rfl (je _ _ _ _) (by rw[fo];omega) bF ?_;intro v2 w3 Cj BQ)
       have ij:=O ((cN.alloc (.cells #[.string ⟨#[]⟩] 9)).fH BQ (fun j hj=>by have:=hv.block j hj;omega));go_roundw
       case rel=>exact⟨k+1,l++[[]],ab,bf,by rw[nL];exact Cj,(HX.o).1,(HX.o).2,ij.o⟩
       case measure=>simp[intOf];omega
      ·have abS:¬pb.toList=[46]:=fun e=>Bo (B7.symm.trans e);have alO:(pb.toList== [46])=false:=aK.2 abS;have HX:=O (Ep.o (l++[p]) (by unfold gX;rw[ar tO,ar Bo]));clear tO Bo B7;go_wp2_with (at_builtin;refine nF rfl _ _ rfl (w.heap.size+1) (.slice av _ cv) (dM l) rfl (by apply im;exact hv) ⟨wr.heap.size,0,none⟩ 1 pb rfl (je _ _ _ _) (by rw[fo];omega) bF ?_;intro v2 w3 Cj BQ)
       have ij:=O ((cN.alloc (.cells #[.string pb] 9)).fH BQ (fun j hj=>by have:=hv.block j hj;omega));go_roundw
       case rel=>exact⟨k+1,l++[p],ab,bf,by rw[nL, <-HPB.o];exact Cj,(HX.o).1,(HX.o).2,ij.o⟩
       case measure=>simp[intOf];omega
    ·have HE:=O (show(parts.drop (k+1)).isEmpty=false by
      cases e:parts.drop (k+1)with
      |nil=>have:=aq List.length e;simp at this;omega
      |cons a b=>rfl)
     have hl1:((k:Int)==(parts.length:Int)-1)=false:=aK.2 ab;by_cases tO:p=Su
     ·subst tO;have D7:pb.toList=[46,46]:=B7;clear B7;by_cases hlen:1<l.length
      ·have hli:(1:Int)<(l.length:Int):=ab;obtain⟨l0,x,RM⟩:∃l0 x,l=l0++[x]:=⟨l.dropLast,l.getLast (by intro e;rw[e]at hlen;simp at hlen),(List.dropLast_concat_getLast _).symm⟩;have hll:l.length=l0.length+1:=by rw[RM];simp
       obtain⟨ad,had⟩:∃ad,av=some ad:=by
        cases av with
        |none=>exact absurd (C8 hv) ab
        |some ad=>exact⟨ad,rfl⟩
       subst had;have Ml:=O (show yx l=l0 by unfold yx;rw[aA hlen,RM];simp);rw[RM,nL]at hv;rw[hll];rw[show(l0++[x]).length=(dM l0).length+1 from by rw[fo];simp]at hv;replace hv:=Strs.pop hv;rw[fo]at hv;have q1:(0:Int)<=(l0.length:Int):=ab;have q4:(l0.length:Int)<=(cv:Int):=by have:=Strs.cap hv;rw[fo]at this;omega
       have q5:l0.length<=cv:=ab;have q2:(1:Int)<(l0.length:Int)+1:=ab;have q3:(l0.length:Int)+1-1=(l0.length:Int):=ab;clear hli RM;have HX:=O (Ep.o (l0) (by unfold gX;rw[aA rfl,HE.o,Ml.o];rfl));go_wp2;go_roundw
       case rel=>exact⟨k+1,l0,ab,bf,hv,(HX.o).1,(HX.o).2,cN⟩
       case measure=>simp[intOf];omega
      ·have hli:¬(1:Int)<(l.length:Int):=ab;have Ml:=O (show yx l=l by unfold yx;rw[ar hlen]);have HX:=O (Ep.o (l) (by unfold gX;rw[aA rfl,HE.o,Ml.o];rfl));go_wp2;go_roundw
       case rel=>exact⟨k+1,l,ab,bf,hv,(HX.o).1,(HX.o).2,cN⟩
       case measure=>simp[intOf];omega
     ·have abR:¬pb.toList=[46,46]:=fun e=>tO (B7.symm.trans e);have alN:(pb.toList== [46,46])=false:=aK.2 abR;by_cases Bo:p=abd
      ·subst Bo;have D7:pb.toList=[46]:=B7;clear B7;have HX:=O (Ep.o (l) (by unfold gX;rw[ar tO,aA rfl,HE.o];rfl));clear tO;go_wp2;go_roundw
       case rel=>exact⟨k+1,l,ab,bf,hv,(HX.o).1,(HX.o).2,cN⟩
       case measure=>simp[intOf];omega
      ·have abS:¬pb.toList=[46]:=fun e=>Bo (B7.symm.trans e);have alO:(pb.toList== [46])=false:=aK.2 abS;have HX:=O (Ep.o (l++[p]) (by unfold gX;rw[ar tO,ar Bo]));clear tO Bo B7;go_wp2_with (at_builtin;refine nF rfl _ _ rfl (w.heap.size+1) (.slice av _ cv) (dM l) rfl (by apply im;exact hv) ⟨wr.heap.size,0,none⟩ 1 pb rfl (je _ _ _ _) (by rw[fo];omega) bF ?_;intro v2 w3 Cj BQ)
       have ij:=O ((cN.alloc (.cells #[.string pb] 9)).fH BQ (fun j hj=>by have:=hv.block j hj;omega));go_roundw
       case rel=>exact⟨k+1,l++[p],ab,bf,by rw[nL, <-HPB.o];exact Cj,(HX.o).1,(HX.o).2,ij.o⟩
       case measure=>simp[intOf];omega
   ·have qp:¬(k:Int)<(parts.length:Int):=ab;have he:l=mh s.data.toList:=by
     have:=HG.o;rw[List.drop_of_length_le ab]at this;exact this
    have hj:=O (Tv.o _ wr l hv ab he cN);clear he;go_wp2_with fail
    refine hj.o.mono ?_;rintro e w9⟨rfl,XM⟩;go_wp2;go_ret;exact⟨rfl,XM⟩
def hD(base:Nat)(w:World)(v:Value)(gs:List (aU bE)):Prop :=
 ∃rs:List (aU Value),OwnRows base 133 16 w v (rs.map aU.cells)/\lf (aU.Reads (cZ base w)) rs gs
theorem hD.fr(h:hD base w v gs)(hf:Fr S w w')(ho:rL base w S)(hn:∀k,v.ownBlock=some k->¬S k):hD base w' v gs:=by
 obtain⟨rs,h1,h2⟩:=h;exact⟨rs,h1.fr hf hn,h2.mono (fun _ _ h=>h.mono (fun _ _ h=>h.fr hf ho))⟩
theorem hD.form(h:hD base w v gs):∃a c,v=.slice a gs.length c:=by
 obtain⟨rs,h1,h2⟩:=h;obtain⟨a,c,hv⟩:=h1.form;exact⟨a,c,by rw[hv,aj,h2.len]⟩
def XS(base:Nat)(w:World)(b:Nat)(o:Nat)(g:aU bE):Prop :=
 ∃r:aU Value,(∀u∈r.cells,u.oneCell'=true)/\r.Reads (cZ base w) g/\∀(i:Nat) u,r.cells[i]?=some u->w.cell? ⟨b,o+i,none⟩=some u
theorem hD.at{base:Nat}{w:World}{v:Value}{gs:List (aU bE)}(h:hD base w v gs){k:Nat}(hk:k<gs.length) :
  ∃b c,v=.slice (some ⟨b,0,none⟩) gs.length c/\gs.length<=maxLen/\XS base w b (k*16) gs[k]:=by
 obtain⟨rs,h1,h2⟩:=h;have hl:=h2.len;obtain⟨x,hx⟩:∃x,rs[k]?=some x:=⟨_,List.getElem?_eq_getElem ab⟩;obtain⟨g,hg,hr⟩:=h2.get hx;rw[List.getElem?_eq_getElem hk]at hg;obtain rfl:=jK hg;have dL:=h1.at;rcases h1.2.2 with ⟨_,hn⟩|⟨bk,cap,cur,hv,_⟩
 ·rw[aj]at hn;omega
 rcases dL.2 with ⟨_,_,e1,e,_⟩|⟨bk',o,c,ub,q1,q2,q3,q4⟩
 ·simp at e;rw[e]at hl;simp at hl;omega
 ·rw[hv]at ub;cases ub;rw[aj]at q1;refine⟨bk,cap,by rw[hv,aj,hl],ab,x,(h1.1 x.cells (cj.2 ⟨x,cA hx,rfl⟩)).2,hr,?_⟩;intro i u hu;have:=q4 k x.cells (by rw[List.getElem?_map,hx];rfl) i u hu;rw[bj]at this;exact this
structure bJ (D:Type) where
 o:gy
 proxy:Bool
 path:ai
 a:fY D
def bJ.cells(g:bJ Value):aX :=
 [.bool g.o.aG,.string g.o.host,.int .i64 g.o.port,.bool g.proxy,.string g.path,
  .int .i64 g.a.scheme,.string g.a.aP,.string g.a.bz,.string g.a.cC,.bool g.a.cD,.string g.a.eY,.bool g.a.du,g.a.dom]
def bJ.Reads(R:Value->List ai->Prop)(r:bJ Value)(g:bJ (List ai)):Prop :=
 r.o=g.o/\r.proxy=g.proxy/\r.path=g.path/\r.a.Reads R g.a
theorem bJ.Reads.mono{R S:Value->List ai->Prop}{r:bJ Value}{g:bJ (List ai)}(h:r.Reads R g)(hs:∀v l,R v l->S v l):r.Reads S g :=
 ⟨h.1,h.2.1,h.2.2.1,h.2.2.2.mono hs⟩
def jS(base:Nat)(w:World)(v:Value)(gs:List (bJ bE)):Prop :=
 ∃rs:List (bJ Value),OwnRows base 129 13 w v (rs.map bJ.cells)/\lf (bJ.Reads (cZ base w)) rs gs
theorem jS.fr{gs:List (bJ bE)}(h:jS base w v gs)(hf:Fr S w w')(ho:rL base w S)(hn:∀k,v.ownBlock=some k->¬S k):jS base w' v gs:=by
 obtain⟨rs,h1,h2⟩:=h;exact⟨rs,h1.fr hf hn,h2.mono (fun _ _ h=>h.mono (fun _ _ h=>h.fr hf ho))⟩
theorem jS.form{gs:List (bJ bE)}(h:jS base w v gs):∃a c,v=.slice a gs.length c:=by
 obtain⟨rs,h1,h2⟩:=h;obtain⟨a,c,hv⟩:=h1.form;exact⟨a,c,by rw[hv,aj,h2.len]⟩
structure dB (base:Nat) (w:World) (b:Nat) (gv wv:Value) (gs:List (aU bE)) (ws:List (bJ bE)):Prop where
 low:base<=b
 eG:w.heap[b]?=some (.cells #[gv,wv] 118 (0,0))
 bW:hD base w gv gs
 waits:jS base w wv ws
section
variable {base : Nat} {w w' : World} {b : Nat} {gv wv : Value} {gs : List (aU bE)} {ws : List (bJ bE)}
theorem dB.lt(h:dB base w b gv wv gs ws):b<w.heap.size:=bg h.eG
theorem dB.c0(h:dB base w b gv wv gs ws):w.cell? ⟨b,0,none⟩=some gv:=by simp[World.cell?,h.eG]
theorem dB.c1(h:dB base w b gv wv gs ws):w.cell? ⟨b,1,none⟩=some wv:=by simp[World.cell?,h.eG]
theorem dB.free(h:dB base w b gv wv gs ws)(k:Nat):w.frozen? ⟨b,k,none⟩=false:=by simp[World.frozen?,h.eG]
theorem dB.fr(h:dB base w b gv wv gs ws)(hf:Fr S w w')(ho:rL base w S)(hb:¬S b)(h1:∀k,gv.ownBlock=some k->¬S k)(h2:∀k,wv.ownBlock=some k->¬S k):dB base w' b gv wv gs ws :=
 ⟨h.low,hf.keep h.eG hb,h.bW.fr hf ho h1,h.waits.fr hf ho h2⟩
theorem dB.dt(h:dB base w b gv wv gs ws)(hf:Fr aW w w'):dB base w' b gv wv gs ws:=h.fr hf (mH _ _) id (fun _ _ h=>h) (fun _ _ h=>h)
end
abbrev fc:bS:= #[.bool false,.string ⟨#[]⟩,.int .i64 0,.bool false,.string ⟨#[]⟩,.string ⟨#[]⟩,.int .i64 0,.string ⟨#[]⟩,.string ⟨#[]⟩,.string ⟨#[]⟩,.bool false,.string ⟨#[]⟩,.bool false,.slice none 0 0,.int .i64 0,.slice none 0 0]
def oG{α:Type}(f:α->Int):List α->Nat->Int×Int->Int×Int
 |[],_,acc=>acc
 |g :: l,i,acc=>oG f l (i+1) (if 0<=f g/\acc.1<=f g then(f g,(i:Int))else acc)
theorem C'{α:Type}(f:α->Int):∀(l:List α) (i:Nat) (acc:Int×Int) (x:α),
  oG f (l++[x]) i acc=(if 0<=f x/\(oG f l i acc).1<=f x then(f x,((i+l.length:Nat):Int))else oG f l i acc)
 |[],i,acc,x=>by simp only[List.nil_append,oG,List.length_nil,Nat.add_zero];rfl
 |g :: l,i,acc,x=>by
  rw[List.cons_append,oG,C' f l (i+1) _ x,oG];simp only[List.length_cons,show i+1+l.length=i+(l.length+1)from ab]
def pA(o:gy)(proxy:Bool)(path:ai)(g:aU bE):Int:=ue g.o g.proxy g.paths o proxy path
def tD(gs:List (aU bE))(o:gy)(proxy:Bool)(path:ai):Int:=(oG (pA o proxy path) gs 0 (-1, -1)).2
def XT(w:World)(gs:List (aU bE))(o:gy)(proxy:Bool)(path:ai)(alS at_ i:Value)(wr:World):Prop :=
 ∃k:Nat,k<=gs.length/\i=.int .i64 k/\alS=.int .i64 (oG (pA o proxy path) (gs.take k) 0 (-1, -1)).1/\at_=.int .i64 (oG (pA o proxy path) (gs.take k) 0 (-1, -1)).2/\Fr aW w wr
theorem TF(base:Nat)(w:World)(b:Nat)(gv wv:Value)(gs:List (aU bE))(ws:List (bJ bE))(o:gy)(proxy:Bool)(path:ai)(h:dB base w b gv wv gs ws) :
  aC 101 #[.pointer (some ⟨b,0,none⟩),.agg o.cells.toArray,.bool proxy,.string path] w fun e w'=>e=.returned (.int .i64 (tD gs o proxy path))/\Fr aW w w':=by
 unfold gy.cells;have h0:=h.c0;obtain⟨av,cv,hv⟩:=h.bW.form;subst hv;have tL:=h.lt;go_enter func101,ntmps101;go_wp2;clear h0;have oQ:Fr aW w (w.alloc (.cells #[.bool o.aG,.string o.host,.int .i64 o.port] 24)):=(ae aW w).alloc _;have hO:(w.alloc (.cells #[.bool o.aG,.string o.host,.int .i64 o.port] 24)).heap[w.heap.size]?=some (.cells #[.bool o.aG,.string o.host,.int .i64 o.port] 24 (0,0)):=aB w _
 have h1:=h.dt oQ;generalize w.alloc (.cells #[.bool o.aG,.string o.host,.int .i64 o.port] 24)=W at oQ hO h1;go_loopw[9,10,19] (XT W gs o proxy path) (fun _ _ i _=>gs.length-(intOf i).toNat)
 case atStart=>exact⟨0,aS _,rfl,rfl,rfl,ae _ _⟩
 case round =>
  obtain⟨k,hk,rfl,rfl,rfl,cN⟩:=hrel;by_cases fx:k<gs.length
  ·obtain⟨bk,c,dn,si,r,dX,hr,hcell⟩:=(h1.dt cN).bW.at fx;cases dn;unfold maxLen at si;have hO2:=cN.keep hO id;obtain⟨x,hx⟩:∃x,x=r.cells:=⟨_,rfl⟩;have lr:x.length=16:=by rw[hx];rfl
   have iM:=fun W=>run_storeCells_new (P:=prog) W 133 #[.bool false,.string ⟨#[]⟩,.int .i64 0,.bool false,.string ⟨#[]⟩,.string ⟨#[]⟩,.int .i64 0,.string ⟨#[]⟩,.string ⟨#[]⟩,.string ⟨#[]⟩,.bool false,.string ⟨#[]⟩,.bool false,.slice none 0 0,.int .i64 0,.slice none 0 0] x (by rw[lr];rfl) (by rw[hx];exact dX);rw[<-hx]at hcell;have HX:=O hx
   have Fo:(prog.info? 133).map (·.size)=some x.toArray.size:=by rw[ba,lr];kernel_rfl
   have Lw:=O Fo;clear hx Fo;have hO3:(wr.alloc (.cells x.toArray 133)).heap[w.heap.size]?=some (.cells #[.bool o.aG,.string o.host,.int .i64 o.port] 24 (0,0)):=by rw[Below.heap_alloc _ _ _ (bg hO2)];exact hO2
   have HO3:=O hO3;clear hO3 hO2
   go_wp2_with (first|((with_reducible refine dv 23 ?_);refine a_ rfl 133 (.tmp 22) rfl bk (k*16) rfl x _ hcell underlying133 rfl (by have h:=Lw.o;rw[ba]at h;exact h) ?_)|((with_reducible refine dv 24 ?_);refine aJ rfl 133 (.tmp 12) rfl wr.heap.size rfl _ x.toArray (0,0) _ (aB wr _) underlying133 rfl Lw.o ?_)|((with_reducible refine dv 25 ?_);refine aJ rfl 24 (.tmp 5) rfl w.heap.size rfl _ _ (0,0) _ HO3.o underlying24 rfl af ?_)|fail)
   have iv:Fr aW wr (wr.alloc (.cells x.toArray 133)):=(ae aW wr).alloc _;have hps:=(hr.2.2.2.2.2.2.dt iv).rd;have hre:=O (show ue r.o r.proxy gs[k].paths o proxy path=pA o proxy path gs[k]by unfold pA;rw[hr.1,hr.2.1]);have dL:=List.getElem?_eq_getElem fx;have Ia:=O (show oG (pA o proxy path) (gs.take (k+1)) 0 (-1, -1)=_ by rw[dT dL,C',aL,dJ hk,bj]);have uf:=(cN.trans iv)
   have fy:=O (P_ r o proxy path gs[k].paths _ hps);rw[<-HX.o]at fy;clear hr iv dL dX iM;generalize wr.alloc (.cells x.toArray 133)=W2 at *
   refine fy.o.mono ?_;rintro e w3⟨rfl,ik⟩;have ij:=uf.trans ik;rw[hre.o];clear hre fy hps hcell;generalize oG (pA o proxy path) (gs.take k) 0 (-1, -1)=acc at *
   generalize pA o proxy path gs[k]=n at *
   by_cases h0:0<=n
   ·by_cases P':acc.1<=n
    ·have hs:=O (show oG (pA o proxy path) (gs.take (k+1)) 0 (-1, -1)=(n,(k:Int))by rw[Ia.o,aA ⟨h0,P'⟩]);go_wp2;go_roundw
     case rel=>exact⟨k+1,ab,bf,by rw[hs.o],by rw[hs.o],ij⟩
     case measure=>simp[intOf];omega
    ·have hs:=O (show oG (pA o proxy path) (gs.take (k+1)) 0 (-1, -1)=acc by rw[Ia.o,ar (fun h=>P' h.2)]);go_wp2;go_roundw
     case rel=>exact⟨k+1,ab,bf,by rw[hs.o],by rw[hs.o],ij⟩
     case measure=>simp[intOf];omega
   ·have hs:=O (show oG (pA o proxy path) (gs.take (k+1)) 0 (-1, -1)=acc by rw[Ia.o,ar (fun h=>h0 h.1)]);go_wp2;go_roundw
    case rel=>exact⟨k+1,ab,bf,by rw[hs.o],by rw[hs.o],ij⟩
    case measure=>simp[intOf];omega
  ·have hs:=O (show(oG (pA o proxy path) (gs.take k) 0 (-1, -1)).2=tD gs o proxy path by rw[aD ab];rfl);go_wp2;go_ret;exact⟨by rw[<-hs.o];rfl,oQ.trans cN⟩
abbrev XU:bS:= #[.bool false,.string ⟨#[]⟩,.int .i64 0,.bool false,.string ⟨#[]⟩,.string ⟨#[]⟩,.int .i64 0,.string ⟨#[]⟩,.string ⟨#[]⟩,.string ⟨#[]⟩,.bool false,.string ⟨#[]⟩,.bool false,.slice none 0 0,.int .i64 0,.slice none 0 0]
theorem OJ:∀v∈XU.toList,v.oneCell'=true:=dp
theorem GV{x:aX}(h:x.length=16):(prog.info? 133).map (·.size)=some x.length:=by rw[h];kernel_rfl
def abZ(w:World)(p:aX->Bool)(xs:cU)(i:Value)(wr:World):Prop :=
 ∃k:Nat,k<=xs.length/\i=.int .i64 k/\(xs.take k).any p=false/\Fr aW w wr
theorem yY(g:Nat)(cap:bS)(p:aX->Bool)(v:Value)(xs:cU)(w:World)(eg:∀args w,(callFunc g args).run prog w=.ok (.enter g args) w)(hp:gF aW w g cap p xs)(hv:eb 16 w v xs) :
  aC 163 #[v,.func (.func g) #[] cap] w fun e w'=>e=.returned (.int .i64 (lH p xs 0))/\Fr aW w w':=by
 obtain⟨av,cv,fT⟩:=hv.form;subst fT;have dX:=O hv.1;go_enter func163,ntmps163;go_wp2;go_loopw[8] (abZ w p xs) (fun i _=>xs.length-(intOf i).toNat)
 case atStart=>exact⟨0,aS _,rfl,rfl,ae _ _⟩
 case round =>
  obtain⟨k,hk,rfl,hn,cN⟩:=hrel;have HN:=O hn;clear hn;by_cases fx:k<xs.length
  ·rcases(hv.iY cN).2 with ⟨_,_,_,e,_⟩|⟨bk,of,c,hf,h1,h2,h3,h4⟩
   ·rw[e]at fx;exact absurd fx (cq _)
   ·cases hf;unfold maxLen at h2;have dL:=O (List.getElem?_eq_getElem fx);have hcell:=h4 k _ dL.o;have gM:=O (bL fx);generalize xs[k]=x at dL hcell gM;have fy:=O (hp x gM.o wr cN);have lr:=(dX.o x gM.o).1;clear h4;cases qk:p x
    ·have pN:=O (any_take_succ dL.o HN.o qk);go_wp2_with (first|((with_reducible refine dv 15 ?_);refine a_ rfl 133 (.tmp 14) rfl bk (of+k*16) rfl x _ hcell underlying133 rfl (GV lr) ?_)|fail)
     refine fy.o.mono ?_;rintro e w1⟨rfl,dn⟩;rw[qk];go_wp2;go_roundw
     case rel=>exact⟨k+1,ab,bf,pN.o,cN.trans dn⟩
     case measure=>simp[intOf];omega
    ·have eX:=O (oF (i:=0) dL.o qk HN.o);go_wp2_with (first|((with_reducible refine dv 15 ?_);refine a_ rfl 133 (.tmp 14) rfl bk (of+k*16) rfl x _ hcell underlying133 rfl (GV lr) ?_)|fail)
     refine fy.o.mono ?_;rintro e w1⟨rfl,dn⟩;rw[qk];go_wp2;go_ret;rw[eX.o,bj];exact⟨rfl,cN.trans dn⟩
  ·have eX:=O (show lH p xs 0= -1 from j8 (by have h:=HN.o;rw[aD ab]at h;exact h));go_wp2;go_ret;rw[eX.o];exact⟨rfl,cN⟩
def ab0(b:Nat)(w:World)(bk cap:Nat)(p:aX->Bool)(xs:cU)(i j:Value)(wr:World):Prop :=
 ∃(m n:Nat) (ys:cU),i=.int .i64 m/\j=.int .i64 n/\m<n/\n<=xs.length/\ys.length=xs.length/\OwnRows b 133 16 wr (.slice (some ⟨bk,0,none⟩) xs.length cap) ys /\
  ys.take m=(xs.take n).filter (fun x=>!p x)/\ys.drop n=xs.drop n/\Fr (one bk) w wr
theorem yZ{p:aX->Bool}:∀ {l:cU} (i:Nat),l.any p=true->∃k x,l[k]?=some x/\p x=true/\(l.take k).any p=false/\lH p l i=((i+k:Nat):Int)
 |[],_,h=>by simp at h
 |a :: l,i,h=>by
  cases ha:p a
  ·rw[List.any_cons,ha,jw]at h;obtain⟨k,x,h1,h2,h3,h4⟩:=yZ (i+1) h;refine⟨k+1,x,by simpa using h1,h2,by simp[ha,h3],?_⟩;rw[lH,ha];simp only[cG,eR];rw[h4];congr 1;omega
  ·exact⟨0,a,rfl,ha,rfl,by rw[lH,ha];simp⟩
theorem y_{p:aX->Bool}{l:cU}(h:l.any p=false):l.filter (fun x=>!p x)=l:=by
 rw[List.filter_eq_self];intro a ha;have:=eT.1 h a ha;simpa using this
theorem xi(b:Nat)(g:Nat)(cap:bS)(p:aX->Bool)(v:Value)(xs:cU)(w:World)(eg:∀args w,(callFunc g args).run prog w=.ok (.enter g args) w)(hp:gF (own v) w g cap p xs)(hv:OwnRows b 133 16 w v xs) :
  aC 114 #[v,.func (.func g) #[] cap] w fun e w'=>∃a c,e=.returned (.slice a (xs.filter (fun x=>!p x)).length c)/\OwnRows b 133 16 w' (.slice a (xs.filter (fun x=>!p x)).length c) (xs.filter (fun x=>!p x))/\Fr (own v) w w'/\own (.slice a (xs.filter (fun x=>!p x)).length c)=own v:=by
 cases iX:xs.any p
 ·have rB:=O (j8 (i:=0) iX);rw[y_ iX];obtain⟨av,cv,fT⟩:=hv.form;subst fT;go_enter func114,ntmps114;go_wp2_with fail
  refine(yY g cap p _ xs w eg hp.none hv.at).mono ?_;rintro e w1⟨rfl,dn⟩;rw[rB.o];go_wp2;go_ret;exact⟨_,_,rfl,hv.fr dn (fun _ _ h=>h),dn.mono (fun _ _ h=>absurd h id),rfl⟩
 ·obtain⟨k0,x0,GQ,Dc,uV,rB⟩:=yZ 0 iX;rw[bj]at rB;have LY:=(List.getElem?_eq_some_iff.1 GQ).1;obtain⟨bk,cp,JN⟩:∃bk cp,v=.slice (some ⟨bk,0,none⟩) xs.length cp:=by
   rcases hv.2.2 with ⟨_,hn⟩|⟨bk,cp,cur,hv,_⟩
   ·omega
   ·exact⟨bk,cp,hv⟩
  subst JN;obtain⟨Bu,cur,ub,q1,q2,q3,q4,q5,q6⟩:=hv.open (g:=bk) rfl;cases ub;unfold maxLen at q4;have dX:=O hv.1;have Dd:=O (show xs.take k0=(xs.take (k0+1)).filter (fun x=>!p x)by
   rw[dT GQ,cE,y_ uV];simp[Dc])
  have HP:=O hp;have XV:=O rB;clear iX uV GQ Dc rB q2 q5 q6 hp;go_enter func114,ntmps114;go_wp2_with fail
  refine(yY g cap p _ xs w eg HP.o.none hv.at).mono ?_;rintro e w1⟨rfl,dn⟩;rw[XV.o];have H':=hv.fr dn (fun _ _ h=>h);have Ij:((k0:Int)== -1)=false:=by rw[aK];omega
  go_wp2;go_loopw[5,6] (ab0 b w bk cp p xs) (fun _ j _=>xs.length-(intOf j).toNat)
  case atStart=>exact⟨k0,k0+1,xs,rfl,bf,ab,ab,rfl,H',Dd.o,rfl,dn.mono (fun _ _ h=>absurd h id)⟩
  case round =>
   obtain⟨m,n,ys,rfl,rfl,hmn,hn,hlen,cO,re,sj,cN⟩:=hrel;have HT:=O re;have HD:=O sj;have jA:=O hlen;clear re sj hlen;rw[<-jA.o]at cO;have rC:=cO.at;by_cases fx:n<xs.length
   ·rcases rC.2 with ⟨_,_,_,e,_⟩|⟨bk',of,c,hf,h1,h2,h3,h4⟩
    ·have hl:=jA.o;rw[e]at hl;simp at hl;omega
    ·cases hf;have dL:=O (List.getElem?_eq_getElem fx);have xU:ys[n]?=some xs[n]:=by
      have e:=aq (fun l:cU=>l[0]?) HD.o;simp only[List.getElem?_drop,Nat.add_zero]at e;rw[e,dL.o]
     have hcell:=h4 n _ xU;simp only[bj]at hcell;have gM:=O (bL fx);generalize xs[n]=x at dL hcell gM xU;have lr:=(dX.o x gM.o).1;have nz:=O (dX.o x gM.o).2
     have iM:=fun W=>run_storeCells_new (P:=prog) W 133 #[.bool false,.string ⟨#[]⟩,.int .i64 0,.bool false,.string ⟨#[]⟩,.string ⟨#[]⟩,.int .i64 0,.string ⟨#[]⟩,.string ⟨#[]⟩,.string ⟨#[]⟩,.bool false,.string ⟨#[]⟩,.bool false,.slice none 0 0,.int .i64 0,.slice none 0 0] x (by rw[lr];rfl) nz.o;have iv:Fr aW wr (wr.alloc (.cells x.toArray 133)):=(ae aW wr).alloc _
     have fy:=O (HP.o x gM.o (wr.alloc (.cells x.toArray 133)) ((cN.alloc _).mono (fun k _ h=>by have e:k=bk:=h;rw[e];rfl)));have GW:=O (GV lr);have ki:=cN.alloc (.cells x.toArray 133);have fu:=cO.fr iv (fun _ _ h=>h);have rj:(wr.alloc (.cells x.toArray 133)).heap[wr.heap.size]?=some (.cells x.toArray 133 (0,0)):=aB _ _;have tu:=O rj;clear h4 xU rj iv
     go_wp2_with (first|((with_reducible refine dv 25 ?_);refine a_ rfl 133 (.tmp 24) rfl bk (n*16) rfl x _ hcell underlying133 rfl GW.o ?_)|((with_reducible refine dv 27 ?_);refine aJ rfl 133 (.tmp 7) rfl wr.heap.size rfl _ x.toArray (0,0) _ tu.o underlying133 rfl (by rw[ba];exact GW.o) ?_)|fail)
     have Z9:wr.heap.size<(wr.alloc (.cells x.toArray 133)).heap.size:=aQ;clear iM hcell;generalize wr.alloc (.cells x.toArray 133)=W2 at *
     refine fy.o.mono ?_;rintro e w3⟨rfl,ik⟩;have qi:=ki.trans (ik.mono (fun _ _ h=>absurd h id));have fk:=fu.fr ik (fun _ _ h=>h);have sN:=O (ik.keep tu.o id);have Mv:=O jA.o;cases qk:p x
     ·have Wh:=O (fk.there (g:=bk) (cap:=cp) (by rw[jA.o]) (o:=m*16) (n:=x.toArray.size) (by
       have hmc:(m+1)*16<=cp*16:=bN _ ab;rw[ba,lr];omega))
      have eU:=fk.store (i:=m) (y:=x) (by rw[jA.o];omega) lr nz.o (g:=bk) rfl;rw[jA.o]at eU;have od:=qi.step (fB (ae (one bk) w3) (fun _=>rfl) x (m*16)) (fun _ _ h=>h)
      go_wp2_with (first|((with_reducible refine dv 32 ?_);refine aJ rfl 133 (.tmp 7) rfl wr.heap.size rfl _ x.toArray (0,0) _ sN.o underlying133 rfl (by rw[ba];exact GW.o) ?_)|((with_reducible refine cP 133 ?_);refine hZ rfl 133 (.tmp 33) (.tmp 32) rfl bk (m*16) x.toArray rfl rfl Wh.o (by rw[ba];exact GW.o) (bU nz.o) ?_)|fail)
      go_roundw
      case rel =>
       refine⟨m+1,n+1,ys.set m x,bf,bf,ab,ab,by rw[dW];exact Mv.o,eU,?_,?_,od⟩
       ·rw[dT (l:=ys.set m x) (List.getElem?_set_self (by rw[Mv.o];omega)),fV (ay m),dT dL.o,cE,HT.o];simp[qk]
       ·rw[fW ab];have e:=aq (List.drop 1) HD.o;simpa[ep]using e
      case measure=>simp[intOf];omega
     ·rw[jA.o]at fk;go_wp2_with fail
      go_roundw
      case rel =>
       refine⟨m,n+1,ys,rfl,bf,ab,ab,Mv.o,fk,?_,?_,qi⟩
       ·rw[dT dL.o,cE,HT.o];simp[qk]
       ·have e:=aq (List.drop 1) HD.o;simpa[ep]using e
      case measure=>simp[intOf];omega
   ·have rD:n=xs.length:=ab;subst rD;have eX:=O (show ys.take m=xs.filter (fun x=>!p x)by have h:=HT.o;rw[aD (ay _)]at h;exact h);have si:(ys.take m).length=m:=by rw[aL,jA.o];omega
    have za:=O (show(xs.filter (fun x=>!p x)).length=m by rw[<-eX.o];exact si);have hcut:=cO.cut (i:=m) (by rw[jA.o];omega) (g:=bk) (cap:=cp) (by rw[jA.o]);have hle:(xs.length-m)*16+m*16<=cp*16:=by rw[<-dC];exact bN _ ab
    have BC:(Builtin.zeroCells XU (xs.length-m)).toList.length=(xs.length-m)*16:=by simp[Builtin.zeroCells]
    have xc:=fun ty=>jn (P:=prog) wr 85 133 ty XU underlying85 (fun w=>af) ag OJ bk (m*16) (xs.length-m) (cp-m) ab (by
     have:=cO.there (g:=bk) (cap:=cp) (by rw[jA.o]) (o:=m*16) (n:=(xs.length-m)*16) ab;exact this)
    have xV:=hcut.behind (o:=m*16) (vs:=(Builtin.zeroCells XU (xs.length-m)).toList) (by rw[si];exact ay _) (g:=bk) (cap:=cp) (by rw[si]) (by rw[BC];omega);have od:=cN.step (fB (ae (one bk) wr) (fun _=>rfl) (Builtin.zeroCells XU (xs.length-m)).toList (m*16)) (fun _ _ h=>h);clear cO rC hcut BC si hle jA;go_wp2_with fail
    go_ret;rw[za.o, <-eX.o];exact⟨_,_,rfl,xV,od.mono (fun k _ h=>by have e:k=bk:=h;rw[e];rfl),rfl⟩
theorem ab1:∃i0:TypeInfo,prog.info? 133=some i0/\i0.size=16:=by
 have h:(prog.info? 133).map (·.size)=some 16:=af;cases hq:prog.info? 133 with
 |none=>rw[hq]at h;cases h
 |some i=>rw[hq]at h;exact⟨i,rfl,by simpa using h⟩
theorem Fs(b:Nat)(bk cp i j:Nat)(xs:cU)(w:World)(hv:OwnRows b 133 16 w (.slice (some ⟨bk,0,none⟩) xs.length cp) xs)(Px:i<j)(hj:j<=xs.length) :
  aC 102 #[.slice (some ⟨bk,0,none⟩) xs.length cp,.int .i64 i,.int .i64 j] w fun e w'=>e=.returned (.slice (some ⟨bk,0,none⟩) (i+(xs.length-j)) cp)/\OwnRows b 133 16 w' (.slice (some ⟨bk,0,none⟩) (i+(xs.length-j)) cp) (xs.take i++xs.drop j)/\Fr (one bk) w w':=by
 obtain⟨i0,ri,kI⟩:=ab1;obtain⟨Bu,cur,ub,q1,q2,q3,q4,q5,q6⟩:=hv.open (g:=bk) rfl;cases ub;unfold maxLen at q4;have dL:=hv.at;have dX:=hv.1;obtain⟨news,kr⟩:∃news,news=(xs.drop j).flatten:=⟨_,rfl⟩;have hdr:∀x∈xs.drop j,x.length=16/\∀u∈x,u.oneCell'=true:=fun x hx=>dX x (ey hx);have hlen:news.length=(xs.length-j)*16:=by rw[kr,gi (fun x hx=>(hdr x hx).1),bH]
 obtain⟨A,hA,Mw⟩:∃A:Addr,(if cp=j then some (⟨bk,0,none⟩:Addr)else some ⟨bk,j*16,none⟩)=some A/\Hid (∀t u,news[t]?=some u->w.drew.cell? (A.add t)=some u):=by
  by_cases h:cp=j
  ·refine⟨⟨bk,0,none⟩,by simp[h],fun t u hu=>?_⟩
   have h0:news.length=0:=by rw[hlen];have:xs.length-j=0:=by omega
                             rw[this,gY]
   rw[dF.1 h0]at hu;simp at hu
  ·refine⟨⟨bk,j*16,none⟩,by simp[h],fun t u hu=>?_⟩;have ht:t<(xs.length-j)*16:=by
    have:=(List.getElem?_eq_some_iff.1 hu).1;omega
   have lD:xs.flatten[j*16+t]?=some u:=by
    have e:xs.flatten=(xs.take j).flatten++(xs.drop j).flatten:=by rw[<-ec,fE]
    have hl:(xs.take j).flatten.length=j*16:=by rw[gi (fun x hx=>(dX x (ew hx)).1),aL,dJ hj]
    rw[e,List.getElem?_append_right ab,hl,show j*16+t-j*16=t from ab, <-kr];exact hu
   have hjt:j*16+t<xs.length*16:=by
    have:(xs.length-j)*16+j*16=xs.length*16:=by rw[<-dC];congr 1;omega
    omega
   rw[<-q6,List.getElem?_take_of_lt hjt]at lD;have B8:cur[j*16+t]?=some u:=by simpa using lD
   have ea:(Addr.add ⟨bk,j*16,none⟩ t)=⟨bk,j*16+t,none⟩:=by unfold Addr.add;split<;>simp_all
   rw[ea];show w.cell? _=some u;simp[World.cell?,q2,B8]
 have s1:=O hlen;have s2:=O (show∀u∈news,u.oneCell'=true by
  intro u hu;rw[kr]at hu;obtain⟨x,hx,Ft⟩:=fD.1 hu;exact(hdr x hx).2 u Ft)
 have s3:=O (show∀t,t<news.length->(w.drew.cell? ⟨bk,0+i*16+t,none⟩).isSome=true/\w.drew.frozen? ⟨bk,0+i*16+t,none⟩=false by
  intro t ht;rw[bj];have hle:i*16+(xs.length-j)*16<=cp*16:=by rw[<-dC];exact bN _ ab
  have:=hv.there (g:=bk) (cap:=cp) rfl (o:=i*16) (n:=(xs.length-j)*16) hle t ab;exact this)
 have TK:OwnRows b 133 16 w.drew (.slice (some ⟨bk,0,none⟩) xs.length cp) xs:=hv;have p9:=TK.CA (i:=i) (ys:=xs.drop j) ab hdr (g:=bk) (cap:=cp) rfl (by rw[bH];omega);rw[bH, <-kr]at p9;have xW:Fr (one bk) w (w.drew.setCells bk (i*16) news):=((ae (one bk) w).drew).setCells (fun _=>rfl) _ _;obtain⟨W1,Bz⟩:∃W1,W1=w.drew.setCells bk (0+i*16) news:=⟨_,rfl⟩;have HW:=O Bz;rw[bj]at Bz;rw[<-Bz]at p9 xW
 have rD:(xs.take i++xs.drop j).length=i+(xs.length-j):=by rw[aM,aL,bH];omega
 have hm:i+(xs.length-j)<xs.length:=ab;have BC:(Builtin.zeroCells XU (xs.length-(i+(xs.length-j)))).toList.length=(xs.length-(i+(xs.length-j)))*16:=by simp[Builtin.zeroCells]
 have hle:(i+(xs.length-j))*16+(xs.length-(i+(xs.length-j)))*16<=cp*16:=by rw[<-dC];exact bN _ ab
 have xc:=fun ty=>jn (P:=prog) W1 85 133 ty XU underlying85 (fun w=>af) ag OJ bk ((i+(xs.length-j))*16) (xs.length-(i+(xs.length-j))) (cp-(i+(xs.length-j))) ab (by
  have:=p9.there (g:=bk) (cap:=cp) (by rw[rD]) (o:=(i+(xs.length-j))*16) (n:=(xs.length-(i+(xs.length-j)))*16) hle;exact this)
 have xV:=p9.behind (o:=(i+(xs.length-j))*16) (vs:=(Builtin.zeroCells XU (xs.length-(i+(xs.length-j)))).toList) (by rw[rD];exact ay _) (g:=bk) (cap:=cp) (by rw[rD]) (by rw[BC];omega);have od:=xW.step (fB (ae (one bk) W1) (fun _=>rfl) (Builtin.zeroCells XU (xs.length-(i+(xs.length-j)))).toList ((i+(xs.length-j))*16)) (fun _ _ h=>h);have hne:((i:Int)==(j:Int))=false:=by rw[aK];omega
 have ab3:i<=cp:=ab;have ab4:j<=cp:=ab;have HA:=O hA;clear Bz p9 TK xW kr hlen hdr dX dL rD BC hle q2 q5 q6 hv;go_enter func102,ntmps102;go_wp2_with fail
 have hA:=HA.o;go_region_law (refine step_append_room rfl (.tmp 22) (.tmp 25) 85 rfl 133 i0 16 underlying85 ri kI bk 0 i cp (by simp[Act.eval,Act.put]) A (xs.length-j) (cp-j) news (by simp[Act.eval,Act.put]) s1.o Mw.out s2.o ab s3.o ?_;rw[<-HW.o])
 all_goals
  go_wp2_with fail
  go_ret;exact⟨rfl,xV,od⟩
