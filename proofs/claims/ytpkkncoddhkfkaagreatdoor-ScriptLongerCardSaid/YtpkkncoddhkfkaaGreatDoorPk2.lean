/- ZMv, TbApp, AskPure, Seconds, Plain, Sha1, Host, Clean, Bank2, KnownPure, Plain2, AskLaw, Rdr1, Hash, Tabs, Host2, Bank3, Askd, DigPure, Rdr2, Count, Url1, Bank4, BestLaw, PassPure, Rdr3, Resp, PrintP, Bank5. -/
import Derived.Test.YtpkkncoddhkfkaaGreatDoorPk1
import Derived.Laws.AppendOwnNone
import Derived.Deep.RegionHeld3
import Derived.StillTailTactics
import Derived.Lib.ItoaLen
import Derived.Deep.AppendLies
set_option maxRecDepth 100000
set_option maxHeartbeats 16000000
set_option linter.unusedSimpArgs false
namespace Go.Proofs.YtpkkncoddhkfkaaGreatDoor
open Go.Proofs.Tryz
open Go.RowKit
variable {k base g:Nat} {w w' W wc A B:World} {v:Value} {gs:List (aC aH)} {S:Nat->Prop} {P:Program} {laid:List (String×DataW Unit)} {x:ai} {pre:List ai} {e:TypeId} {xs:List (List Value)}
abbrev kf:Array Value:= #[.int .i64 0,.int .i64 0,.int .i64 0,.int .i64 0,.bool false,.string ⟨#[]⟩,.int .i64 0,.bool false,.string ⟨#[]⟩,.int .i64 0,.string ⟨#[]⟩,.string ⟨#[]⟩,.string ⟨#[]⟩,.slice none 0 0,.bool false,.string ⟨#[]⟩,.bool false,.string ⟨#[]⟩,.string ⟨#[]⟩,.string ⟨#[]⟩,.string ⟨#[]⟩,.int .i64 0,.bool false,.int .i64 0]
theorem qQ:(prog.info? 65).map (fun i=>(i.zero,i.size,i.bytes))=some (some (.agg #[.string ⟨#[]⟩,.string ⟨#[]⟩]),2,32):=af
theorem iu{ops:Array Oper}{rest:List Oper}{o:Oper}{a:Act}{Q:Exit->Act->World->Prop}{w:World}(uu:o.guard=none)(s x:Operand)
  (ho:o.op=.call {callee:=.builtin .append,args:= #[s,x],argTypes:= #[29,29]})(base:Nat)(v:Value)(l:List (List Value))(hs:a.eval s=v)(bO:OwnRows base 65 2 w v l)
  (vx:Value)(m:List (List Value))(hx:a.eval x=vx)(hm:cz 2 w vx m)(hlen:l.length+m.length<1000000000)(fE:base<=w.heap.size)
  (h:∀v' w',OwnRows base 65 2 w' v' (l++m)->w.grownBy w' v.ownBlock->wpList prog ops Q rest (a.put o.dst v') w'):wpList prog ops Q (o :: rest) a w:=by
 obtain⟨i0,hi,kO,gK,mv⟩:=info_parts qQ;obtain⟨ax,cx,lj⟩:=hm.form;have HM:=hm.1;cases ax with
 |none =>
  obtain⟨G1,h2⟩:m=[]/\cx=0:=by
   rcases hm.2 with ⟨a',c',hv,hs,hc⟩|⟨bk,o',c,hf,_⟩
   ·rw[lj]at hv;injection hv with e1 e2 e3
    exact⟨hs,e3.trans (hc e1.symm)⟩
   ·rw[lj]at hf;injection hf with e1;cases e1
  subst G1;have DB:a.eval x=.slice none 0 0:=by rw[hx,lj,h2];rfl
  refine wpList_append_own_none uu s x 29 ho base 65 i0 2 underlying29 hi v l.length l.flatten hs bO.2 DB ?_;exact h v w (by rw[bH];exact bO) ⟨rfl,rfl,rfl,ar _,fun _ _ _=>rfl⟩
 |some ad =>
  have vN:m.flatten.length=m.length*2:=ej (fun x hx=>(HM x hx).1);refine wpList_append_own w uu s x 29 ho base 65 i0 (.agg #[.string ⟨#[]⟩,.string ⟨#[]⟩]) 2 32 underlying29 hi kO gK mv rfl ae v l.length l.flatten hs bO.2 ad m.length cx m.flatten (hx.trans lj) vN ?_ ?_ ?_ ?_ fE ?_
  ·intro j u hj;rcases hm.2 with ⟨_,_,_,e,_⟩|⟨bk,o',c,hf,g1,g2,g3,g4⟩
   ·subst e;simp at hj
   ·rw[hf]at lj;cases lj;have BX:=(List.getElem?_eq_some_iff.1 hj).1;have hd:j/2<m.length:=ab;have G2:j%2<2:=ab;have Fl:(m[j/2]).length=2:=(HM _ (bZ hd)).1;have e1:=fa (k:=2) (xs:=m) (fun x hx=>(HM x hx).1) (j:=j/2) (List.getElem?_eq_getElem hd) (i:=j%2) (List.getElem?_eq_getElem (by rw[Fl];exact G2));rw[Nat.div_add_mod']at e1;rw[e1]at hj;cases hj
    have:=g4 (j/2) _ (List.getElem?_eq_getElem hd) (j%2) _ (List.getElem?_eq_getElem (by rw[Fl];exact G2));have ea:(Addr.add ⟨bk,o',none⟩ j)=⟨bk,o'+j,none⟩:=by unfold Addr.add;split<;>simp_all
    rw[ea, <-this]
    congr 2
    omega
  ·intro u hu;obtain⟨y,hy,JO⟩:=List.mem_flatten.1 hu;exact(HM y hy).2 u JO
  ·unfold maxLen;omega
  ·omega
  ·intro v' w' h1 h2 _;refine h v' w' ⟨fun y hy=>?_,by simpa using h1⟩ h2;rcases aE.1 hy with hy|hy
   ·exact bO.1 y hy
   ·exact HM y hy
abbrev Bs:=aw
abbrev fW:=Bs×Bs
structure kA where
 scheme:Bs
 token:Bs
 params:List fW
def DT(c:UInt8):Bool:=iG c||c==44
def xY:aw:=[97,98,99,100,101,102,103,104,105,106,107,108,109,110,111,112,113,114,115,116,117,118,119,120,121,122,65,66,67,68,69,70,71,72,73,74,75,76,77,78,79,80,81,82,83,84,85,86,87,88,89,90,48,49,50,51,52,53,54,55,56,57,45,46,95,126,43,47]
def rO(c:UInt8):Bool:=xY.contains c
def jo(c:UInt8):Bool:=[61].contains c
def AL:Bs->Bool
 |[]=>true
 |c :: _=>c==44
def dx(r:Bs):Bs:=r.dropWhile iG
def jH(r:Bs):Bs:=r.dropWhile DT
def rP(r:Bs):Bool:=AL (dx r)
def eI(r:Bs):Bs:=r.takeWhile fZ
def cW(r:Bs):Bs:=r.dropWhile fZ
def Gc(b:UInt8):Bs->Bool
 |[]=>false
 |c :: _=>c==b
def f_(r:Bs):Bool:=!(eI r).isEmpty&&Gc 61 (dx (cW r))
def lz(r:Bs):Bs:=r.takeWhile rO
def pC(r:Bs):Bs:=(r.dropWhile rO).takeWhile jo
def ju(r:Bs):Bs:=(r.dropWhile rO).dropWhile jo
def singleR(r:Bs):Option (Bs×Bs):=if !(lz r).isEmpty&&rP (ju r)then some (lz r++pC r,dx (ju r))else none
def rQ:Bs->Option (Bs×Bs)
 |[]=>none
 |c :: t=>if c==34 then rM t else none
def lA(r:Bs):Option (Bs×Bs):=if(eI r).isEmpty then rQ r else some (eI r,cW r)
def fu(r:Bs):Bs:=dx ((dx (cW r)).drop 1)
def xZ(ps:List fW)(n:Bs):Bool:=ps.any fun q=>ft q.1 n
def jI(ps:List fW)(r:Bs):Except Nat (fW×Bs) :=
 if !f_ r then .error 3 else
 match lA (fu r)with
 |none=>.error 3
 |some q=>if xZ ps (eI r)then .error 9 else if ps.length=16 then .error 4 else .ok ((eI r,q.1),q.2)
def fw:Nat->List fW->Bs->Except Nat (List fW×Bs)
 |0,ps,r=>.ok (ps,r)
 |f+1,ps,r =>
  match jI ps r with
  | .error e=>.error e
  | .ok (p,r1)=>if rP r1 then(if f_ (jH r1)then fw f (ps++[p]) (jH r1)else .ok (ps++[p],jH r1))else .error 3
def qi:Bs->Bool
 |[]=>false
 |c :: _=>iG c
def qj(k:Nat)(r:Bs):Except Nat (kA×Bs) :=
 if(eI r).isEmpty then .error 3
 else if k=8 then .error 4
 else if rP (cW r)then .ok (⟨eI r,[],[]⟩,dx (cW r))
 else if !qi (cW r)then .error 3
 else match singleR (dx (cW r))with
  |some q=>.ok (⟨eI r,q.1,[]⟩,q.2)
  |none=>match fw ((dx (cW r)).length+1) [] (dx (cW r))with
   | .error e=>.error e
   | .ok q=>.ok (⟨eI r,[],q.1⟩,q.2)
def jJ:Nat->List kA->Bs->Except Nat (List kA)
 |0,acc,_=>.ok acc
 |f+1,acc,r =>
  if(jH r).isEmpty then .ok acc else
  match qj acc.length (jH r)with
  | .error e=>.error e
  | .ok (x,r1)=>jJ f (acc++[x]) r1
def kJ(l:Bs):Except Nat (List kA):=if 3000<l.length then .error 4 else jJ (l.length+1) [] l
theorem mI(p:UInt8->Bool)(r:Bs):(r.dropWhile p).length<=r.length:=(List.dropWhile_suffix p).length_le
theorem dy(r:Bs):(dx r).length<=r.length:=mI _ r
theorem jK(r:Bs):(jH r).length<=r.length:=mI _ r
theorem iH(p:UInt8->Bool)(r:Bs):(r.takeWhile p).length+(r.dropWhile p).length=r.length:=by
 rw[<-aS,List.takeWhile_append_dropWhile]
theorem gz(r:Bs):(eI r).length+(cW r).length=r.length:=iH _ r
theorem kK{r:Bs}(h:(eI r).isEmpty=false):(cW r).length<r.length:=by
 have h1:=gz r;cases e:eI r with
 |nil=>rw[e]at h;cases h
 |cons c t=>rw[e]at h1;simp at h1;omega
theorem x4{r a z:Bs}(h:rM r=some (a,z)):a.length+z.length+1<=r.length:=ly _ r a z (ar _) h
theorem qk{r a z:Bs}(h:rQ r=some (a,z)):a.length+z.length+2<=r.length:=by
 cases r with
 |nil=>cases h
 |cons c t =>
  have h':(if c==34 then rM t else none)=some (a,z):=h;by_cases hc:(c==34)=true
  ·rw[aq hc]at h';have:=x4 h';simp;omega
  ·rw[aj hc]at h';cases h'
theorem ql{r a z:Bs}(h:lA r=some (a,z)):a.length+z.length<=r.length:=by
 unfold lA at h;split at h
 ·have:=qk h;omega
 ·cases h;have:=gz r;omega
theorem nS(r:Bs):(fu r).length<=(cW r).length:=by
 unfold fu;have h1:=dy ((dx (cW r)).drop 1);have h2:=dy (cW r);have h3:((dx (cW r)).drop 1).length<=(dx (cW r)).length:=aK;omega
theorem mJ{r:Bs}(h:f_ r=true):(eI r).isEmpty=false:=by
 unfold f_ at h;simp only[aY,Bool.not_eq_true']at h;exact h.1
theorem jL{r:Bs}(h:f_ r=true):(fu r).length+2<=r.length:=by
 have hw:=kK (mJ h);unfold f_ at h;simp only[aY]at h;have h2:=h.2;unfold fu;have h3:=dy (cW r);cases e:dx (cW r)with
 |nil=>rw[e]at h2;cases h2
 |cons c t =>
  rw[e]at h3;have h4:=dy ((c :: t).drop 1);simp at h3 h4 ⊢; omega
theorem kL{ps:List fW}{r:Bs}{p:fW}{z:Bs}(h:jI ps r=.ok (p,z)):p.1.length+p.2.length+z.length<r.length:=by
 unfold jI at h;by_cases hn:f_ r=true
 ·rw[aj (by simp[hn])]at h;have h1:=jL hn;have h0:=nS r;have hw:=gz r;cases hv:lA (fu r)with
  |none=>rw[hv]at h;cases h
  |some q =>
   rw[hv]at h;simp only at h;split at h
   ·cases h
   ·split at h
    ·cases h
    ·cases h;have:=ql (a:=q.1) (z:=q.2) hv;unfold f_ at hn;simp only[aY]at hn;have h2:=hn.2;have h5:(fu r).length+1<=(cW r).length:=by
      unfold fu;have h3:=dy (cW r);cases e:dx (cW r)with
      |nil=>rw[e]at h2;cases h2
      |cons c t =>
       rw[e]at h3;have h4:=dy ((c :: t).drop 1);simp at h3 h4 ⊢; omega
     simp only;omega
 ·rw[aq (by simpa using hn)]at h;cases h
theorem jM:∀(f:Nat) (ps:List fW) (r:Bs) (q:List fW×Bs),fw f ps r=.ok q->q.2.length<=r.length
 |0,ps,r,q,h=>by rw[fw]at h;cases h;exact ar _
 |f+1,ps,r,q,h=>by
  rw[fw]at h;cases hp:jI ps r with
  |error e=>rw[hp]at h;cases h
  |ok p =>
   rw[hp]at h;obtain⟨p,r1⟩:=p;have hl:=kL hp;have hg:=jK r1;simp only at h;split at h
   ·split at h
    ·have:=jM f _ _ q h;omega
    ·cases h;simp only;omega
   ·cases h
theorem jN{r t z:Bs}(h:singleR r=some (t,z)):t.length+z.length<=r.length:=by
 unfold singleR at h;split at h
 ·cases h;have h1:=iH rO r;have h2:=iH jo (r.dropWhile rO);have h3:=dy (ju r);unfold ju at h3 ⊢;unfold lz pC;rw[aS];omega
 ·cases h
theorem uY{r:Bs}{x:kA}{z:Bs}(h:qj k r=.ok (x,z)):z.length<r.length:=by
 unfold qj at h;split at h
 ·cases h
 rename_i hw;have hw':(eI r).isEmpty=false:=by simpa using hw
 have h1:=kK hw';have h2:=dy (cW r);split at h
 ·cases h
 split at h
 ·cases h;omega
 split at h
 ·cases h
 split at h
 ·rename_i q hq;cases h;have:=jN (t:=q.1) (z:=q.2) hq;omega
 ·split at h
  ·cases h
  ·rename_i q hq;cases h;have:=jM _ _ _ _ hq;omega
def DY(c:UInt8):Bool:=decide (48<=c.toNat/\c.toNat<=57)
def vd(n:Int)(c:UInt8):Int:=min (n*10+((c.toNat:Int)-48)) 2147483648
def DZ(l:aw):Int:=l.foldl vd 0
def ve(l:aw):Bool:=!l.isEmpty&&l.all DY
def yd:aw:=[34,40,41,58,60,62,63,64,91,92,93,123,125]
def vh(c:UInt8):Bool:=(decide (c.toNat<32)&&!decide (c.toNat=9))||decide (c.toNat=127)||decide (0<=Lib.indexByte yd c)
def AZ:aw:=[32,42,44,45,46,59,61]
def A0(c:UInt8):Bool:=nQ c||decide (0<=Lib.indexByte AZ c)
def w7(s:ai):Bool:=s.data.toList.all A0
def n9:List Int:=[1116352408,1899447441,3049323471,3921009573,961987163,1508970993,2453635748,2870763221,3624381080,310598401,607225278,1426881987,1925078388,2162078206,2614888103,3248222580,3835390401,4022224774,264347078,604807628,770255983,1249150122,1555081692,1996064986,2554220882,2821834349,2952996808,3210313671,3336571891,3584528711,113926993,338241895,666307205,773529912,1294757372,1396182291,1695183700,1986661051,2177026350,2456956037,2730485921,2820302411,3259730800,3345764771,3516065817,3600352804,4094571909,275423344,430227734,506948616,659060556,883997877,958139571,1322822218,1537002063,1747873779,1955562222,2024104815,2227730452,2361852424,2428436474,2756734187,3204031479,3329325298]
def si:List Int:=[1779033703,3144134277,1013904242,2773480762,1359893119,2600822924,528734635,1541459225]
structure lL (w:World):Prop where
 r:ib w 4 .u32 n9
 b:ib w 3 .u32 si
def sj(a b c:Int):Int:=bits .xor .u32 (bits .xor .u32 a b) c
def D'(x:Int):Int:=sj (jS x 25) (jS x 14) (x/8)
def Ea(y:Int):Int:=sj (jS y 15) (jS y 13) (y/1024)
def Bi(X:aw)(l:List Int)(i:Nat):Int:=if i<16 then xc false (X.drop (4*i))else(l.getD (i-16) 0+l.getD (i-7) 0+D' (l.getD (i-15) 0)+Ea (l.getD (i-2) 0))%4294967296
def Bj(X:aw)(l:List Int)(i:Nat):List Int:=l++[Bi X l i]
def Gf(X:aw):Nat->List Int
 |0=>[]
 |i+1=>Bj X (Gf X i) i
structure Sh where
 v0:Int
 v1:Int
 v2:Int
 v3:Int
 v4:Int
 v5:Int
 v6:Int
 v7:Int
def IJ(ws:List Int)(k:Nat)(v:Sh):Int:=(v.v7+sj (jS v.v4 26) (jS v.v4 21) (jS v.v4 7)+bits .xor .u32 (bits .and .u32 v.v4 v.v5) (bits .and .u32 (vw v.v4) v.v6)+n9.getD k 0+ws.getD k 0)%4294967296
def IK(v:Sh):Int:=(sj (jS v.v0 30) (jS v.v0 19) (jS v.v0 10)+sj (bits .and .u32 v.v0 v.v1) (bits .and .u32 v.v0 v.v2) (bits .and .u32 v.v1 v.v2))%4294967296
def Bk(v:Sh)(p q:Int):Sh:=⟨(p+q)%4294967296,v.v0,v.v1,v.v2,(v.v3+p)%4294967296,v.v4,v.v5,v.v6⟩
def jw(ws:List Int)(h:Sh):Nat->Sh
 |0=>h
 |k+1=>Bk (jw ws h k) (IJ ws k (jw ws h k)) (IK (jw ws h k))
def Bl(h v:Sh):Sh:=⟨(h.v0+v.v0)%4294967296,(h.v1+v.v1)%4294967296,(h.v2+v.v2)%4294967296,(h.v3+v.v3)%4294967296,(h.v4+v.v4)%4294967296,(h.v5+v.v5)%4294967296,(h.v6+v.v6)%4294967296,(h.v7+v.v7)%4294967296⟩
def vz(X:aw)(h:Sh):Sh:=Bl h (jw (Gf X 64) h 64)
def IL:Sh:=⟨1779033703,3144134277,1013904242,2773480762,1359893119,2600822924,528734635,1541459225⟩
def Bm(T:aw):Nat->Sh
 |0=>IL
 |k+1=>vz (T.drop (64*k)) (Bm T k)
def Sh.list(s:Sh):List Int:=[s.v0,s.v1,s.v2,s.v3,s.v4,s.v5,s.v6,s.v7]
def Eb(l:aw):aw:=mR false (Bm (vu false l) ((vu false l).length/64)).list
open Go.RowKit Go.Shelf
attribute [local go_sem] Oper.semAt_some
theorem od(s:ai)(c:UInt8)(w:World) :
  Calls prog 87 #[.string s,.string ⟨#[c]⟩] w fun e w'=>e=.returned (.int .i64 (Lib.indexByte s.data.toList c))/\w'=w:=by
 go_enter func87,ntmps87;go_wp2_with fail
 refine(Tryz.stringslite_Index_one s c w).mono ?_;rintro e w1⟨rfl,rfl⟩;go_wp2;go_ret;exact⟨rfl,rfl⟩
def su(w:World)(k:Nat):Nat:=match w.cell? ⟨k,0,none⟩with
 |some (.string s)=>s.size+1
 |_=>0
theorem jq(s:ai)(k n:Nat)(w:World)(hn:1<=n)(hs:s.size<100000)
  (h0:w.heap[k]?=some (.cells #[.string s] 9 (0,0)))(h1:w.heap[k+1]?=some (.cells #[.string ⟨#[46]⟩] 9 (0,0)))(h2:w.heap[k+2]?=some (.cells #[.int .i64 0] 3 (0,0))) :
  sq Fence.wide n prog 85 #[.pointer (some ⟨k+1,0,none⟩),.pointer (some ⟨k,0,none⟩),.pointer (some ⟨k+2,0,none⟩)] (fun x:ai=>Value.string x) k (dR 46 s) w:=by
 intro l J Jx W Eo hJ KH hY IY;have b0:=Eo.keep h0 (fun h=>h);have b1:=Eo.keep h1 (fun h=>h);have b2:=Eo.keep h2 (fun h=>h);have c0:W.cell? ⟨k,0,none⟩=some (.string s):=by simp[World.cell?,b0]
 have c1:W.cell? ⟨k+1,0,none⟩=some (.string ⟨#[46]⟩):=by simp[World.cell?,b1]
 refine callsIn_of_wp func85 rfl trivial ?_ rfl;simp only[ntmps85,bb,bM,List.length_nil,Nat.reduceAdd,Nat.reduceSub,Array.replicate_succ,Array.replicate_zero,List.push_toArray,List.append_toArray,bz,cN];gi_wp2
 gi_loopw [] (fun wr=>∃(pre:List ai) (r:ai),pre++dR 46 r=dR 46 s/\r.size<=s.size/\wr.heap[k]?=some (.cells #[.string r] 9 (0,0))/\wr.heap[k+1]?=some (.cells #[.string ⟨#[46]⟩] 9 (0,0))/\wr.heap[k+2]?=some (.cells #[.int .i64 0] 3 (0,0))/\J pre wr) (fun wr=>su wr k)
 case atStart=>exact⟨[],s,rfl,ar _,b0,b1,b2,IY⟩
 case round =>
  obtain⟨pre,r,C6,KI,d0,d1,d2,hj⟩:=hrel;have e0:wr.cell? ⟨k,0,none⟩=some (.string r):=by simp[World.cell?,d0]
  have e1:wr.cell? ⟨k+1,0,none⟩=some (.string ⟨#[46]⟩):=by simp[World.cell?,d1]
  have e2:wr.cell? ⟨k+2,0,none⟩=some (.int .i64 0):=by simp[World.cell?,d2]
  gi_wp2_with fail
  refine⟨trivial,?_⟩;refine(callsIn_wide.2 (od r 46 wr)).mono ?_;rintro e u⟨rfl,rfl⟩;by_cases BA:0<=Lib.indexByte r.data.toList 46
  ·obtain⟨i,hi⟩:∃i:Nat,Lib.indexByte r.data.toList 46=(i:Int):=⟨(Lib.indexByte r.data.toList 46).toNat,ab⟩;have KJ:i<r.size:=by have:=yq hi;simpa using this
   have Ep:=O (ob 46 r i hi);rw[hi];clear hi BA;have q0:¬(i:Int)<0:=ab;have q1:(0:Int)<=(i:Int):=ab;have q2:(i:Int)<=(r.size:Int):=ab;have q3:(i:Int)+1<=(r.size:Int):=ab;have q4:(0:Int)<=(i:Int)+1:=ab;obtain⟨fn,tmps,assign,body,hy,hR⟩:=hY pre (r.extract 0 i) u hj ⟨dR 46 (r.extract (i+1) r.size),by rw[cD,cA, <-Ep.o];exact C6⟩;gi_wp2;refine hR.mono ?_;rintro e W3(⟨rfl,Er,uw⟩|⟨rfl,mT⟩)
   ·have f0:=(uw k ab ab).trans d0;have f1:=(uw (k+1) ab ab).trans d1;have f2:=(uw (k+2) ab ab).trans d2;clear e0 e1 e2 uw;have e0:W3.cell? ⟨k,0,none⟩=some (.string r):=by simp[World.cell?,f0]
    have e1:W3.cell? ⟨k+1,0,none⟩=some (.string ⟨#[46]⟩):=by simp[World.cell?,f1]
    have e3:W3.frozen? ⟨k,0,none⟩=false:=by simp[World.frozen?,f0]
    gi_wp2;have g0:(W3.setCell ⟨k,0,none⟩ (.string (r.extract (i+1) r.size))).heap[k]?=some (.cells #[.string (r.extract (i+1) r.size)] 9 (0,0)):=by simp[World.setCell,Array.getElem?_modify,f0]
    have hz:(r.extract (i+1) r.size).size=r.size-(i+1):=by rw[ByteArray.size_extract];omega
    refine⟨⟨pre++[r.extract 0 i],r.extract (i+1) r.size,by rw[cD,cA, <-Ep.o];exact C6,ab,g0,(Below.heap_setCell _ _ _ _ aK).trans f1,(Below.heap_setCell _ _ _ _ aK).trans f2,hJ _ _ _ Er ((Fr.refl (fun j=>j=k) W3).setCell (p:=⟨k,0,none⟩) (fun _=>rfl) _)⟩,?_⟩;unfold su;simp only[World.cell?,g0,d0];simp;omega
   ·gi_wp2;refine bodyPost_ret (results_none rfl _ _ _) rfl ?_;exact⟨⟨_,rfl⟩,.inr ⟨pre++[r.extract 0 i],⟨dR 46 (r.extract (i+1) r.size),by rw[cD,cA, <-Ep.o];exact C6⟩,mT⟩⟩
  ·have Es:=O (show pre++[r]=dR 46 s by rw[<-mS 46 r BA];exact C6);obtain⟨fn,tmps,assign,body,hy,hR⟩:=hY pre r u hj ⟨[],by rw[bH];exact Es.o⟩;have q0:Lib.indexByte r.data.toList 46<0:=ab;clear BA;gi_wp2;refine hR.mono ?_;rintro e W3(⟨rfl,Er,uw⟩|⟨rfl,mT⟩)
   ·gi_wp2;go_end0;exact⟨⟨_,rfl⟩,.inl (by rw[<-Es.o];exact Er)⟩
   ·gi_wp2;go_end0;exact⟨⟨_,rfl⟩,.inr ⟨pre++[r],⟨[],by rw[bH];exact Es.o⟩,mT⟩⟩
theorem lQ(c:UInt8):∀l:aw,(cm c l).length<=l.length+1
 |[]=>by simp[cm]
 |x :: l=>by
  have ih:=lQ c l;have hne:=iJ c l;by_cases h:x=c
  ·subst h;rw[fK];simp;omega
  ·cases e:cm c l with
   |nil=>exact absurd e hne
   |cons p ps=>rw[eJ h e];rw[e]at ih;simp at ih ⊢; omega
theorem kP(c:UInt8):∀l:aw,((cm c l).map fun p=>p.length+1).sum<=l.length+1
 |[]=>by simp[cm]
 |x :: l=>by
  have ih:=kP c l;have hne:=iJ c l;by_cases h:x=c
  ·subst h;rw[fK];simp at ih ⊢; omega
  ·cases e:cm c l with
   |nil=>exact absurd e hne
   |cons p ps=>rw[eJ h e];rw[e]at ih;simp at ih ⊢; omega
def er(base:Nat)(w:World)(v:Value)(gs:List (aC aH)):Prop :=
 ∃rs:List (aC Value),OwnRows base 137 16 w v (rs.map aC.cells)/\fo (aC.Reads (cZ base w)) rs gs
theorem er.fr(h:er base w v gs)(hf:Fr S w w')(ho:jc base w S)(hn:∀k,v.ownBlock=some k->¬S k):er base w' v gs:=by
 obtain⟨rs,h1,h2⟩:=h;exact⟨rs,h1.fr hf hn,h2.mono (fun _ _ h=>h.mono (fun _ _ h=>h.fr hf ho))⟩
theorem er.form(h:er base w v gs):∃a c,v=.slice a gs.length c:=by
 obtain⟨rs,h1,h2⟩:=h;obtain⟨a,c,hv⟩:=h1.form;exact⟨a,c,by rw[hv,ag,h2.len]⟩
def vG(base:Nat)(w:World)(b:Nat)(o:Nat)(g:aC aH):Prop :=
 ∃r:aC Value,(∀u∈r.cells,u.oneCell'=true)/\r.Reads (cZ base w) g/\∀(i:Nat) u,r.cells[i]?=some u->w.cell? ⟨b,o+i,none⟩=some u
theorem er.at(h:er base w v gs)(hk:k<gs.length) :
  ∃b c,v=.slice (some ⟨b,0,none⟩) gs.length c/\gs.length<=maxLen/\vG base w b (k*16) gs[k]:=by
 obtain⟨rs,h1,h2⟩:=h;have hl:=h2.len;obtain⟨x,hx⟩:∃x,rs[k]?=some x:=⟨_,List.getElem?_eq_getElem ab⟩;obtain⟨g,hg,hr⟩:=h2.get hx;rw[List.getElem?_eq_getElem hk]at hg;obtain rfl:=Option.some.inj hg;have lx:=h1.at;rcases h1.2.2 with ⟨_,hn⟩|⟨bk,cap,cur,hv,_⟩
 ·rw[ag]at hn;omega
 rcases lx.2 with ⟨_,_,e1,e,_⟩|⟨sG,o,c,qs,q1,q2,q3,q4⟩
 ·simp at e;rw[e]at hl;simp at hl;omega
 ·rw[hv]at qs;cases qs;rw[ag]at q1;refine⟨bk,cap,by rw[hv,ag,hl],ab,x,(h1.1 x.cells (List.mem_map.2 ⟨x,aR hx,rfl⟩)).2,hr,?_⟩;intro i u hu;have:=q4 k x.cells (by rw[List.getElem?_map,hx];rfl) i u hu;rw[Nat.zero_add]at this;exact this
structure aP (D:Type) where
 o:ef
 proxy:Bool
 path:ai
 a:eh D
def aP.cells(g:aP Value):List Value :=
 [.bool g.o.ao,.string g.o.host,.int .i64 g.o.port,.bool g.proxy,.string g.path,
  .int .i64 g.a.scheme,.string g.a.cj,.string g.a.dk,.string g.a.e9,.bool g.a.eP,.string g.a.iI,.bool g.a.fx,g.a.dom]
def aP.Reads(R:Value->List ai->Prop)(r:aP Value)(g:aP (List ai)):Prop :=
 r.o=g.o/\r.proxy=g.proxy/\r.path=g.path/\r.a.Reads R g.a
theorem aP.Reads.mono{R S:Value->List ai->Prop}{r:aP Value}{g:aP (List ai)}(h:r.Reads R g)(hs:∀v l,R v l->S v l):r.Reads S g :=
 ⟨h.1,h.2.1,h.2.2.1,h.2.2.2.mono hs⟩
def eS(base:Nat)(w:World)(v:Value)(gs:List (aP aH)):Prop :=
 ∃rs:List (aP Value),OwnRows base 156 13 w v (rs.map aP.cells)/\fo (aP.Reads (cZ base w)) rs gs
theorem eS.fr{gs:List (aP aH)}(h:eS base w v gs)(hf:Fr S w w')(ho:jc base w S)(hn:∀k,v.ownBlock=some k->¬S k):eS base w' v gs:=by
 obtain⟨rs,h1,h2⟩:=h;exact⟨rs,h1.fr hf hn,h2.mono (fun _ _ h=>h.mono (fun _ _ h=>h.fr hf ho))⟩
theorem eS.form{gs:List (aP aH)}(h:eS base w v gs):∃a c,v=.slice a gs.length c:=by
 obtain⟨rs,h1,h2⟩:=h;obtain⟨a,c,hv⟩:=h1.form;exact⟨a,c,by rw[hv,ag,h2.len]⟩
structure b_ (base:Nat) (w:World) (b:Nat) (gv wv:Value) (gs:List (aC aH)) (ws:List (aP aH)):Prop where
 low:base<=b
 cR:w.heap[b]?=some (.cells #[gv,wv] 101 (0,0))
 bC:er base w gv gs
 waits:eS base w wv ws
section
variable {base : Nat} {w w' : World} {b : Nat} {gv wv : Value} {gs : List (aC aH)} {ws : List (aP aH)}
theorem b_.lt(h:b_ base w b gv wv gs ws):b<w.heap.size:=aJ h.cR
theorem b_.c0(h:b_ base w b gv wv gs ws):w.cell? ⟨b,0,none⟩=some gv:=by simp[World.cell?,h.cR]
theorem b_.c1(h:b_ base w b gv wv gs ws):w.cell? ⟨b,1,none⟩=some wv:=by simp[World.cell?,h.cR]
theorem b_.fr(h:b_ base w b gv wv gs ws)(hf:Fr S w w')(ho:jc base w S)(hb:¬S b)(h1:∀k,gv.ownBlock=some k->¬S k)(h2:∀k,wv.ownBlock=some k->¬S k):b_ base w' b gv wv gs ws :=
 ⟨h.low,hf.keep h.cR hb,h.bC.fr hf ho h1,h.waits.fr hf ho h2⟩
theorem b_.dv(h:b_ base w b gv wv gs ws)(hf:Fr aU w w'):b_ base w' b gv wv gs ws:=h.fr hf (jc.none _ _) (fun h=>h) (fun _ _ h=>h) (fun _ _ h=>h)
end
abbrev iT:Array Value:= #[.bool false,.string ⟨#[]⟩,.int .i64 0,.bool false,.string ⟨#[]⟩,.string ⟨#[]⟩,.int .i64 0,.string ⟨#[]⟩,.string ⟨#[]⟩,.string ⟨#[]⟩,.bool false,.string ⟨#[]⟩,.bool false,.slice none 0 0,.int .i64 0,.slice none 0 0]
def xh{α:Type}(f:α->Int):List α->Nat->Int×Int->Int×Int
 |[],_,acc=>acc
 |g :: l,i,acc=>xh f l (i+1) (if 0<=f g/\acc.1<=f g then(f g,(i:Int))else acc)
def yw(o:ef)(proxy:Bool)(path:ai)(g:aC aH):Int:=yv g.o g.proxy g.paths o proxy path
def jh(gs:List (aC aH))(o:ef)(proxy:Bool)(path:ai):Int:=(xh (yw o proxy path) gs 0 (-1, -1)).2
def bA(l:Bs):ai:=⟨l.toArray⟩
def iK(ps:List fW)(name:Bs):Option Bs:=(ps.find? fun p=>ft p.1 name).map (·.2)
def rR:Bs:=[114,101,97,108,109]
def x6:Bs:=[98,97,115,105,99]
def u0:Bs:=[100,105,103,101,115,116]
def AQ:Bs:=[97,108,103,111,114,105,116,104,109]
def u_:Bs:=[77,68,53]
def x7:Bs:=[83,72,65,45,50,53,54]
def rS:Bs:=[45,115,101,115,115]
def rT:Bs:=[110,111,110,99,101]
def AR:Bs:=[113,111,112]
def rU:Bs:=[97,117,116,104]
def x8:Bs:=[97,117,116,104,45,105,110,116]
def lB:Bs:=[111,112,97,113,117,101]
def x9:Bs:=[115,116,97,108,101]
def wZ:Bs:=[116,114,117,101]
def jv:Bs:=[100,111,109,97,105,110]
def DV(s:Bs):Option (Int×Bool) :=
 if ft s u_ then some (2,false)
 else if ft s (u_++rS)then some (2,true)
 else if ft s x7 then some (3,false)
 else if ft s (x7++rS)then some (3,true)
 else none
def AU(l:List Bs):Option Bs :=
 if l.any (fun w=>ft w rU)then some rU else if l.any (fun w=>ft w x8)then some x8 else none
def DW(q:Bs):Option Bs :=
 match pB q with
 | .error _=>none
 | .ok l=>if 40<l.length then none else AU l
def DX(ps:List fW):Option Bs :=
 match iK ps AR with
 |none=>some []
 |some q=>DW q
def u'(d:Bs):List Bs:=((cm 32 d).filter fun p=>Gc 47 p).map x5
def lC(x:kA):Option (eh aH) :=
 match iK x.params rR with
 |none=>none
 |some cj =>
  if ft x.scheme x6 then some ⟨1,bA cj,bA [],bA [],false,bA [],false,[]⟩else
  match DV ((iK x.params AQ).getD u_)with
  |none=>none
  |some (k,eP) =>
   if !ft x.scheme u0 then none else
   match iK x.params rT with
   |none=>none
   |some dk =>
    match DX x.params with
    |none=>none
    |some q=>some ⟨k,bA cj,bA dk,bA ((iK x.params lB).getD []),eP,bA q,ft ((iK x.params x9).getD []) wZ,(u' ((iK x.params jv).getD [])).map bA⟩
def rV:eh aH:=⟨0,bA [],bA [],bA [],false,bA [],false,[]⟩
def fL(a:eh aH)(x:kA):eh aH :=
 match lC x with
 |none=>a
 |some b=>if a.scheme<b.scheme then b else a
def jb(l:List kA):eh aH:=l.foldl fL rV
def w8(s:ai):Bool:=s.data.toList.all fun c=>!vh c
def ye:List ai:=[⟨#[97,112,112,108,105,99,97,116,105,111,110,47,120,45,119,119,119,45,102,111,114,109,45,117,114,108,101,110,99,111,100,101,100]⟩,⟨#[109,117,108,116,105,112,97,114,116,47,102,111,114,109,45,100,97,116,97]⟩,⟨#[116,101,120,116,47,112,108,97,105,110]⟩]
def vk(s:ai)(c:UInt8):ai:=if 0<=Lib.indexByte s.data.toList c then s.extract 0 (Lib.indexByte s.data.toList c).toNat else s
def A1(s:ai):ai:=⟨(lr (Lib.trimS (vk s 59).data.toList [32,9])).toArray⟩
def nW(name value:ai):Bool :=
 if 128<value.size then false
 else if lr name.data.toList=[97,99,99,101,112,116]then w8 value
 else if lr name.data.toList=[97,99,99,101,112,116,45,108,97,110,103,117,97,103,101]then w7 value
 else if lr name.data.toList=[99,111,110,116,101,110,116,45,108,97,110,103,117,97,103,101]then w7 value
 else if lr name.data.toList=[99,111,110,116,101,110,116,45,116,121,112,101]then w8 value&&Lib.containsS ye (A1 value)
 else false
def A'(p:fW)(x:Bs):Bs:=p.1++61 :: x
def xa:List (fW×Bs)->Bs
 |[]=>[]
 |[p]=>A' p.1 p.2
 |p :: q :: l=>A' p.1 p.2++44 :: 32 :: xa (q :: l)
section
variable {w w' : World} {b c i : Nat} {s t : ByteArray} {v : Value}
end
def cR(s:ai)(i:Nat):Nat:=uW iG s.data.toList i
def sk(ss:List ai):aw:=Lib.join (ss.map (·.data.toList)) [58]
def jd(uv:Bool)(ss:List ai):ai:=if uv then⟨(Eb (sk ss)).toArray⟩else⟨(D_ (sk ss)).toArray⟩
theorem pI{x:String×DataW Unit}:∀ {laid:List (String×DataW Unit)},laidMet P laid W->x∈laid->∃r,laidMet P (x :: r) W
 |y :: l,h,hm=>by
  rcases aD.1 hm with rfl|hm
  ·exact⟨l,h⟩
  ·exact pI (laidMet.tail h) hm
theorem fc{P:Program}{W:World}{laid:List (String×DataW Unit)}{name:String}{k:IntKind}{zs:List Int}{g:Nat}{t e:TypeId}{n:Nat}
  (h:laidMet P laid W)(hm:(name,Lib.tabData k zs)∈laid)
  (hg:P.globalNamed name=some g)(Ec:(P.globals[g]?).map (·.type)=some t)(ht:P.underlying t=some (.array n e))(he:P.underlying e=some (.int k))(hce:P.cellsOf e=1)(Ed:P.cellsOf t=n):Lib.TabIs P W name k zs:=by
 obtain⟨r,hr⟩:=pI h hm;exact Lib.tabIs_of_head hg Ec ht he hce Ed hr
theorem vA{i:Nat}(h:w.cell? ⟨g,i,none⟩=some v):g<w.heap.size:=by
 cases hb:w.heap[g]? with
 |none=>simp[World.cell?,hb]at h
 |some o=>exact aJ hb
theorem gh{name:String}{k:IntKind}{zs:List Int}(hT:Lib.TabIs P W name k zs)(hg:P.globalNamed name=some g)(hz:0<zs.length):ib W g k zs:=by
 have hc:∀(i:Nat) z,zs[i]?=some z->W.cell? ⟨g,i,none⟩=some (.int k z):=fun i z hi=>by
  obtain⟨hl,he⟩:=List.getElem?_eq_some_iff.1 hi;rw[hT.cell hg i hl,List.getD_eq_getElem?_getD,hi];rfl
 exact⟨vA (hc 0 _ (List.getElem?_eq_getElem hz)),hc⟩
theorem je(h:laidMet prog laid W)(hm:("gatepost/api.Sines",Lib.tabData .u32 nZ)∈laid/\("gatepost/sum.turns",Lib.tabData .i64 (n5.map Int.ofNat))∈laid):lK W :=
 ⟨gh (fc h hm.1 (g:=5) af af underlying283 underlying278 af af) af ae,
  gh (fc h hm.2 (g:=6) af af underlying289 underlying3 af af) af ae⟩
theorem jf(h:laidMet prog laid W)(hm:("gatepost/api.Roots",Lib.tabData .u32 n9)∈laid/\("gatepost/api.Begin",Lib.tabData .u32 si)∈laid):lL W :=
 ⟨gh (fc h hm.1 (g:=4) af af underlying283 underlying278 af af) af ae,
  gh (fc h hm.2 (g:=3) af af underlying281 underlying278 af af) af ae⟩
attribute [local go_sem] Oper.semAt_some
theorem lR(s sep:ai)(w:World) :
  Calls prog 29 #[.string s,.string sep] w fun e w' =>
   e=.returned (.func (.func 85) #[] #[.pointer (some ⟨w.heap.size+1,0,none⟩),.pointer (some ⟨w.heap.size,0,none⟩),.pointer (some ⟨w.heap.size+2,0,none⟩)]) /\
   w'=((w.alloc (.cells #[.string s] 9)).alloc (.cells #[.string sep] 9)).alloc (.cells #[.int .i64 0] 3):=by
 have IZ:Calls prog 49 #[.string s,.string sep,.int .i64 0] w fun e w' =>
   e=.returned (.func (.func 85) #[] #[.pointer (some ⟨w.heap.size+1,0,none⟩),.pointer (some ⟨w.heap.size,0,none⟩),.pointer (some ⟨w.heap.size+2,0,none⟩)]) /\
   w'=((w.alloc (.cells #[.string s] 9)).alloc (.cells #[.string sep] 9)).alloc (.cells #[.int .i64 0] 3):=by
  go_enter func49,ntmps49;go_wp2;go_ret;exact⟨rfl,rfl⟩
 go_enter func29,ntmps29;go_wp2_with fail
 refine IZ.mono ?_;rintro e w1⟨rfl,rfl⟩;go_wp2;go_ret;exact⟨rfl,rfl⟩
theorem sx(f:aw->Nat):∀(L:List (aw)) (l:aw),l∈L->f l<=(L.map f).sum
 |a :: L,l,h=>by
  simp only[bp,List.sum_cons];rcases aD.1 h with rfl|h
  ·omega
  ·have:=sx f L l h;omega
theorem og{c:UInt8}{s:ai}(h:x∈dR c s):x.size<=s.size:=by
 unfold dR at h;obtain⟨l,hl,rfl⟩:=List.mem_map.1 h;have h1:=kP c s.data.toList;have h2:l.length+1<=((cm c s.data.toList).map fun p=>p.length+1).sum:=sx (fun p=>p.length+1) _ l hl;have h3:s.data.toList.length=s.size:=aK;show l.toArray.size<=_;simp only[bb];omega
def eR:ai:=⟨#[97,98,99,100,101,102,103,104,105,106,107,108,109,110,111,112,113,114,115,116,117,118,119,120,121,122,48,49,50,51,52,53,54,55,56,57,45]⟩
theorem kC:∀b∈eR.data.toList,b.toNat<128:=fN
theorem mU:∀n:Fin 256,eR.data.toList.contains n.val.toUInt8=mK n.val.toUInt8:=fN
theorem jg(l:aw):l.all (eR.data.toList.contains ·)=l.all mK:=by
 congr 1;funext c
 have h:=mU ⟨c.toNat,c.toNat_lt⟩;simpa using h
def fO(s:ai):Bool:=pE s.data.toList
def gl(w wc W:World):Prop:=W.heap[w.heap.size]?=some (.cells #[.bool false] 4 (0,0))/\Fr aU w W/\wc.heap.size<=W.heap.size
def mV(w wc:World)(pre:List ai)(W:World):Prop:=(∀p∈pre,jQ p.data.toList=true)/\gl w wc W
def sy(w wc:World)(pre:List ai)(W:World):Prop:=(∃p∈pre,jQ p.data.toList=false)/\gl w wc W
theorem gl.fr(hz:wc.heap.size=w.heap.size+4)(h:gl w wc A)(hf:Fr (jV (w.heap.size+1) wc.heap.size) A B):gl w wc B :=
 ⟨hf.keep h.1 (by unfold jV;omega),h.2.1.step hf (fun j hj hk=>by unfold jV at hk;omega),au h.2.2 hf.size⟩
theorem gl.grow(h:gl w wc A)(hf:Fr aU A B):gl w wc B:=⟨hf.keep h.1 (fun h=>h),h.2.1.trans hf,au h.2.2 hf.size⟩
theorem gl.put(h:gl w wc A):gl w wc (A.setCell ⟨w.heap.size,0,none⟩ (.bool false)) :=
 ⟨by simp[World.setCell,Array.getElem?_modify,h.1],h.2.1.eC (p:=⟨w.heap.size,0,none⟩) (ar _) _,by simpa[World.setCell]using h.2.2⟩
theorem Fr.others(h:Fr aU A B):KeepsOthers A B:=⟨h.size,fun _ _ hk _=>h.keep hk (fun h=>h)⟩
theorem Fr.yr(h:Fr aU A B)(hk:k+3<=A.heap.size):gi k A B:=fun j _ h2=>h.block j ab (fun h=>h)
theorem sz(h:mV w wc pre W)(hx:jQ x.data.toList=false)(A:World)(hA:Fr aU W A)(aa:Act) :
  n_ (w.heap.size+1) (mV w wc) (sy w wc) (pre++[x]) W .ret aa (A.setCell ⟨w.heap.size,0,none⟩ (.bool false)) :=
 ⟨hA.others.trans (KeepsOthers.setCell A _ _),⟨x,aK,hx⟩,(h.2.grow hA).put⟩
theorem qp(hz:wc.heap.size=w.heap.size+4)(h:mV w wc pre W)(hx:jQ x.data.toList=true)(A:World)(hA:Fr aU W A)(aa:Act) :
  n_ (w.heap.size+1) (mV w wc) (sy w wc) (pre++[x]) W .normal aa A :=
 ⟨hA.others,hA.yr (by have:=h.2.2.2;omega),fun p hp=>by
  rcases aE.1 hp with hp|hp
  ·exact h.1 p hp
  ·rw[aG]at hp;subst hp;exact hx,h.2.grow hA⟩
theorem sD(s:ai)(w:World)(hs:s.size<100000) :
  Calls prog 19 #[.string s] w fun e w'=>e=.returned (.bool (fO s))/\Fr aU w w':=by
 by_cases Gh:60<s.size
 ·have i60:(60:Int)<(s.size:Int):=ab;have HT:=O (show fO s=false by unfold fO pE;rw[aN (by simpa using Gh)];rfl);go_enter func19,ntmps19;go_wp2;refine bodyPost_ret (v:=.bool false) ?_ rfl ⟨by rw[HT.o],?_⟩
  ·simp[results,Tryz.f19,go_sem]
  ·first|exact(Fr.refl aU w).alloc _|exact((Fr.refl aU w).alloc _).eC (p:=⟨w.heap.size,0,none⟩) (ar _) _
 ·have i60:¬(60:Int)<(s.size:Int):=ab;obtain⟨wb,kQ⟩:∃wb,wb=w.alloc (.cells #[.bool false] 4):=⟨_,rfl⟩;have zR:wb.heap.size=w.heap.size+1:=by rw[kQ];simp
  have ux:Fr aU w wb:=by rw[kQ];exact(Fr.refl aU w).alloc _
  have xf:wb.heap[w.heap.size]?=some (.cells #[.bool false] 4 (0,0)):=by rw[kQ];exact aB _ _
  obtain⟨wc,yt⟩:∃wc,wc=((wb.alloc (.cells #[.string s] 9)).alloc (.cells #[.string ⟨#[46]⟩] 9)).alloc (.cells #[.int .i64 0] 3):=⟨_,rfl⟩;have Et:Fr aU wb wc:=by rw[yt];exact(((Fr.refl aU wb).alloc _).alloc _).alloc _
  have Eu:wc.heap.size=w.heap.size+4:=by rw[yt];simp[zR]
  have BB:wc.heap[w.heap.size+1]?=some (.cells #[.string s] 9 (0,0)):=by
   rw[yt, <-zR];exact(((Fr.refl aU _).alloc _).alloc _).keep (aB wb _) (fun h=>h)
  have C0:wc.heap[w.heap.size+1+1]?=some (.cells #[.string ⟨#[46]⟩] 9 (0,0)):=by
   rw[yt, <-zR];have:=((Fr.refl aU _).alloc (.cells #[.int .i64 0] 3)).keep (aB (wb.alloc (.cells #[.string s] 9)) (.cells #[.string ⟨#[46]⟩] 9)) (fun h=>h);simpa using this
  have AH:wc.heap[w.heap.size+1+2]?=some (.cells #[.int .i64 0] 3 (0,0)):=by
   rw[yt, <-zR];have:=aB ((wb.alloc (.cells #[.string s] 9)).alloc (.cells #[.string ⟨#[46]⟩] 9)) (.cells #[.int .i64 0] 3);simpa using this
  have Gi:=O ((lR s ⟨#[46]⟩ wb).mono (R':=fun e w'=>e=.returned (.func (.func 85) #[] #[.pointer (some ⟨w.heap.size+1+1,0,none⟩),.pointer (some ⟨w.heap.size+1,0,none⟩),.pointer (some ⟨w.heap.size+1+2,0,none⟩)])/\wc=w') (fun e w' h=>by rw[zR, <-yt]at h;exact⟨h.1,h.2.symm⟩));have uy:=O kQ;clear kQ yt;refine(callsIn_wide (n:=5)).1 ?_;refine callsIn_of_wp_marks func19 rfl trivial ?_ rfl
  simp only[ntmps19,bb,bM,List.length_nil,Nat.reduceAdd,Nat.reduceSub,Array.replicate_succ,Array.replicate_zero,List.push_toArray,List.append_toArray,bz,cN]
  gi_wp2_with fail
  rw[<-uy.o];refine⟨trivial,?_⟩;refine(callsIn_wide.2 Gi.o).mono ?_;rintro e u⟨rfl,rfl⟩;gi_wp2;have Gj:=Et.keep xf (fun h=>h);have BC:=ux.trans Et;have yu:=O (show fO s=(dR 46 s).all (fun p=>jQ p.data.toList)by
   unfold fO pE dR;rw[aM (by simpa using Nat.le_of_not_lt Gh),Bool.true_and,List.all_map];rfl)
  refine iM rfl ae (gf:=85) (lb:= #[.pointer (some ⟨w.heap.size+1+1,0,none⟩),.pointer (some ⟨w.heap.size+1,0,none⟩),.pointer (some ⟨w.heap.size+1+2,0,none⟩)]) rfl trivial (enters_of func85 af rfl)
   (enc:=fun x:ai=>Value.string x) (k:=w.heap.size+1) (ys:=dR 46 s) ab (jq s (w.heap.size+1) 4 wc ae hs BB C0 AH) rfl
   (mV w wc) (sy w wc) (fun xs A B h f=>⟨h.1,h.2.fr Eu f⟩) (fun xs A B h f=>⟨h.1,h.2.fr Eu f⟩) ⟨(fun p hp=>by cases hp),Gj,BC,ar _⟩
   (fun x=>{tmps:= #[.string s,undef,.pointer (some ⟨w.heap.size,0,none⟩),.string x,.string s,.int .i64 s.size,.bool false,.string s,.func (.func 85) #[] #[.pointer (some ⟨w.heap.size+1+1,0,none⟩),.pointer (some ⟨w.heap.size+1,0,none⟩),.pointer (some ⟨w.heap.size+1+2,0,none⟩)],.string x,undef,undef,undef,undef,undef,undef,undef,undef,undef,undef,undef,undef,undef,undef,undef,undef,undef,undef,undef,undef],defers:=[]}) ?assign ?body ?done ?stop
  case assign =>
   intro l x W K hK;gi_wp2;exact hK
  case body =>
   intro l pre x W hi C5;have KK:x.size<=s.size:=og (C5.subset aK);clear C5;have kS:=O (fun hx=>qp (x:=x) Eu hi hx);have lS:=O (fun hx=>sz (x:=x) hi hx);obtain⟨_,hr,_,_⟩:=hi;have HR:=O hr;have c0:W.cell? ⟨w.heap.size,0,none⟩=some (.bool false):=by simp[World.cell?,hr]
   have c1:W.frozen? ⟨w.heap.size,0,none⟩=false:=by simp[World.frozen?,hr]
   clear hr xf Gj BB C0 AH ux Et BC zR Gi uy yu;by_cases Ev:x.size=0
   ·have hl:jQ x.data.toList=false:=by
     have:x.data.toList=[]:=by apply aO;simpa using Ev
     rw[this];rfl
    have C7:x.toList=[]:=by rw[ByteArray.toList_eq];apply aO;simpa using Ev
    have I0:x.toList.isEmpty=true:=by rw[C7];rfl
    have HB:=O (lS.o hl);clear hl lS kS;gi_wp2;refine⟨trivial,?_⟩;gi_wp2;exact HB.o W (Fr.refl _ _) _
   ·obtain⟨m,hm⟩:∃m,x.size=m+1:=⟨x.size-1,ab⟩;have hne:¬x.toList=[]:=by rw[ByteArray.toList_eq];intro h;apply Ev;have:=ay List.length h;simpa using this
    have Ew:x.toList.isEmpty=false:=by simpa using hne
    have C8:=O (show x.data.toList.isEmpty=false by rw[<-ByteArray.toList_eq];exact Ew);have BD:=O (show x.data.toList.head?=some (x[0]'ab)by rw[List.head?_eq_getElem?];exact byte_at x 0 ab);have BF:=O (show x.data.toList.getLast?=some (x[m]'ab)by
     rw[List.getLast?_eq_getElem?]
     have:x.data.toList.length-1=m:=by have:x.data.toList.length=x.size:=by simp
                                       omega
     rw[this];exact byte_at x m ab)
    have Ex:((x.size:Nat):Int)-1=(m:Int):=ab;have KL:(m:Int)<(x.size:Int):=ab;have KM:(0:Int)<=(m:Int):=ab;have KN:m<x.size:=ab;have KO:0<x.size:=ab;have KP:(0:Int)<(x.size:Int):=ab;have sF:∀c:UInt8,c=45↔(c.toNat:Int)=45:=fun c=>by
     constructor
     ·rintro rfl;rfl
     ·intro h;exact UInt8.toNat.inj (by have:(45:UInt8).toNat=45:=rfl;omega)
    by_cases vE:x[0]'ab=45
    ·have i0:(((x[0]'ab).toNat:Int)==45)=true:=beq_iff_eq.2 ((sF _).1 vE);have I1:((x[0]'ab).toNat:Int)=45:=(sF _).1 vE;have HB:=O (lS.o (by unfold jQ;rw[BD.o,vE];simp));clear lS kS C8 BD BF sF vE;gi_wp2;refine⟨trivial,?_⟩;gi_wp2;exact HB.o W (Fr.refl _ _) _
    ·have i0:(((x[0]'ab).toNat:Int)==45)=false:=beq_eq_false_iff_ne.2 (fun h=>vE ((sF _).2 h));have I1:¬((x[0]'ab).toNat:Int)=45:=fun h=>vE ((sF _).2 h);by_cases xg:x[m]'ab=45
     ·have i1:(((x[m]'ab).toNat:Int)==45)=true:=beq_iff_eq.2 ((sF _).1 xg);have I2:((x[m]'ab).toNat:Int)=45:=(sF _).1 xg;have HB:=O (lS.o (by unfold jQ;rw[BF.o,xg];simp));clear lS kS C8 BD BF sF xg vE;gi_wp2;refine⟨trivial,?_⟩;gi_wp2;exact HB.o W (Fr.refl _ _) _
     ·have i1:(((x[m]'ab).toNat:Int)==45)=false:=beq_eq_false_iff_ne.2 (fun h=>xg ((sF _).2 h));have I2:¬((x[m]'ab).toNat:Int)=45:=fun h=>xg ((sF _).2 h);have BG:=O (show jQ x.data.toList=x.data.toList.all mK by
       unfold jQ;rw[C8.o,BD.o,BF.o,show(some (x[0]'ab)==some 45)=false by simpa using vE,show(some (x[m]'ab)==some 45)=false by simpa using xg];rfl)
      have Ey:=O (mL x eR W ab ae ae kC);clear C8 BD BF sF xg vE
      gi_wp2_with fail
      refine⟨trivial,?_⟩;refine(CallsIn.inRound l (callsIn_wide.2 Ey.o)).mono ?_;rintro e u⟨rfl,qq⟩;cases fV:x.data.toList.all mK
      ·have BH:Lib.trimS x.data.toList eR.data.toList≠ []:=fun h=>by rw[kM,jg,fV]at h;cases h
       have t1:¬(⟨(Lib.trimS x.data.toList eR.data.toList).toArray⟩:ai).toList=[]:=by rw[ByteArray.toList_eq];simpa using BH
       have t2:(⟨(Lib.trimS x.data.toList eR.data.toList).toArray⟩:ai).toList.isEmpty=false:=by simpa using t1
       have HB:=O (lS.o (BG.o.trans fV));have C9:=qq.keep HR.o (fun h=>h);have d0:u.cell? ⟨w.heap.size,0,none⟩=some (.bool false):=by simp[World.cell?,C9]
       have d1:u.frozen? ⟨w.heap.size,0,none⟩=false:=by simp[World.frozen?,C9]
       clear BH fV lS kS BG Ey c0 c1;generalize (⟨(Lib.trimS x.data.toList eR.data.toList).toArray⟩:ai)=z at *
       gi_wp2;exact HB.o u qq _
      ·have BH:Lib.trimS x.data.toList eR.data.toList=[]:=by rw[kM,jg,fV]
       rw[BH];have HG:=O (kS.o (BG.o.trans fV));clear BH fV lS kS BG Ey;gi_wp2;exact HG.o u qq _
  case done =>
   rintro D W rfl⟨fV,hw⟩hd;have c0:W.cell? ⟨w.heap.size,0,none⟩=some (.bool false):=by simp[World.cell?,hw.1]
   have c1:W.frozen? ⟨w.heap.size,0,none⟩=false:=by simp[World.frozen?,hw.1]
   have HT:=O (show fO s=true by rw[yu.o,cM];exact fV);have HF:=O hw.2.1;clear hw;gi_wp2;have ig:=(KeepsOthers.setCell W ⟨w.heap.size,0,none⟩ (.bool true)).same _ _ hd rfl;refine⟨aK,.inl ⟨_,_,rfl,run_takeDeferred ig,?_⟩⟩
   have Ez:=cell_kept (World.cell?_setCell_same' W ⟨w.heap.size,0,none⟩ (.bool true) (by rw[c0];rfl)) (grownBy_putObj' _ wc.heap.size (.deferred none)) (fun r e=>by cases e;exact⟨_,ig,rfl⟩);refine⟨.bool true,?_,by rw[HT.o],(HF.o.eC (p:=⟨w.heap.size,0,none⟩) (ar _) _).putObj (fun hl=>ab) _⟩;simp[results,Tryz.f19,go_sem,Ez]
  case stop =>
   rintro D xs W rfl I3⟨⟨p,hp,I4⟩,hw⟩hd;have HT:=O (show fO s=false by rw[yu.o,List.all_eq_false];exact⟨p,I3.subset hp,by simp[I4]⟩);have c0:W.cell? ⟨w.heap.size,0,none⟩=some (.bool false):=by simp[World.cell?,hw.1]
   have HF:=O hw.2.1;clear hw;gi_wp2;refine⟨aK,.inl ⟨_,_,rfl,run_takeDeferred hd,?_⟩⟩;have Ez:=cell_kept c0 (grownBy_putObj' _ wc.heap.size (.deferred none)) (fun r e=>by cases e;exact⟨_,hd,rfl⟩);refine⟨.bool false,?_,by rw[HT.o],HF.o.putObj (fun hl=>ab) _⟩;simp[results,Tryz.f19,go_sem,Ez]
def dc(o:ef):Bool:=ya ⟨o.ao,o.host.data.toList,o.port⟩
theorem iR(o:ef)(w:World)(hs:o.host.size<100000) :
  Calls prog 8 #[.agg o.cells.toArray] w fun e w'=>e=.returned (.bool (dc o))/\Fr aU w w':=by
 obtain⟨sec,host,port⟩:=o;unfold ef.cells;have HR:=O (show dc ⟨sec,host,port⟩=(fO host&&(decide (1<=port)&&decide (port<=65535)))from rfl);obtain⟨wb,kQ⟩:∃wb,wb=w.alloc (.cells #[.bool sec,.string host,.int .i64 port] 26):=⟨_,rfl⟩;have ux:Fr aU w wb:=by rw[kQ];exact(Fr.refl aU w).alloc _
 have zS:wb.heap[w.heap.size]?=some (.cells #[.bool sec,.string host,.int .i64 port] 26 (0,0)):=by rw[kQ];exact aB _ _
 have uy:=O kQ;clear kQ;go_enter func8,ntmps8;go_wp2_with fail
 rw[<-uy.o];refine(sD host wb hs).mono ?_;rintro e u⟨rfl,qq⟩;have Be:=qq.keep zS (fun h=>h);have c2:u.cell? ⟨w.heap.size,2,none⟩=some (.int .i64 port):=by simp[World.cell?,Be]
 generalize fO host=b at *
 cases b
 ·go_wp2;go_ret;exact⟨by rw[HR.o];rfl,ux.trans qq⟩
 ·by_cases h1:1<=port
  ·have d1:decide (1<=port)=true:=aM h1;go_wp2;go_ret;exact⟨by rw[HR.o,d1];rfl,ux.trans qq⟩
  ·have d1:decide (1<=port)=false:=aN h1;go_wp2;go_ret;exact⟨by rw[HR.o,d1];rfl,ux.trans qq⟩
theorem gZ(base:Nat)(v:Value)(ss:List ai)(w:World)(h:cZ base w v ss) :
  Calls prog 93 #[v] w fun e w'=>∃a c,e=.returned (.slice a ss.length c)/\cZ base w' (.slice a ss.length c) ss/\Fr aU w w':=by
 have hl:=h.my;rcases h.rd with ⟨a,c,rfl,rfl,_⟩|⟨bk,o,c,rfl,h1,h2,h3,h4⟩
 ·cases a with
  |none=>exact(Tryz.slices_Clone_string_nil 0 c w).mono fun e w' ⟨he,hw⟩=>⟨none,0,he,cZ.nil _ _,hw▸Fr.refl _ _⟩
  |some a =>
   refine(Tryz.slices_Clone_string_zero a c w).mono fun e w' ⟨v',he,ho,_,hb⟩=>?_;have hs:Strs w.heap.size w' v' []:=ho;obtain⟨a',c',hv⟩:=hs.form;exact⟨a',c',by rw[he,hv],by rw[<-hv];exact hs.in hl,Fr.ia hb⟩
 ·refine(Tryz.slices_Clone_string bk o ss.length c ss w (ar _) ab (fun j hj=>h4 j _ (by simp[List.getD,hj]))).mono fun e w' ⟨v',he,ho,_,hb⟩=>?_;rw[bj (ar _)]at ho;have hs:Strs w.heap.size w' v' ss:=ho;obtain⟨a',c',hv⟩:=hs.form;exact⟨a',c',by rw[he,hv],by rw[<-hv];exact hs.in hl,Fr.ia hb⟩
def yx(base:Nat)(m:aC aH)(w:World)(e:Ending)(w':World):Prop :=
 ∃r:aC Value,e=.returned (.agg r.cells.toArray)/\r.Reads (cZ base w') m/\(∀u∈r.cells,u.oneCell'=true)/\Fr aU w w'
theorem kT{r:aC Value}{a b:Option Addr}{n m c d:Nat}(h1:r.a.dom=.slice a n c)(h2:r.paths=.slice b m d):∀u∈r.cells,u.oneCell'=true:=by
 intro u hu;simp only[aC.cells,aD,aZ,ct]at hu;rcases hu with rfl|rfl|rfl|rfl|rfl|rfl|rfl|rfl|rfl|rfl|rfl|rfl|rfl|rfl|rfl|rfl<;>first|rfl|(rw[h1];rfl)|(rw[h2];rfl)
theorem oh(base:Nat)(g:aC Value)(m:aC aH)(w:World)(fE:base<=w.heap.size)(h:g.Reads (cZ base w) m) :
  Calls prog 92 #[.agg g.cells.toArray] w (yx base m w):=by
 have xi:=h.2.2.2.2.2.2;have zT:=h.2.2.2.2.1.2.2.2.2.2.2.2;have H:=O h;clear h;unfold aC.cells;obtain⟨ad,cd,hd⟩:=zT.rd.form;obtain⟨ap,cp,hp⟩:=xi.rd.form;rw[hp]at xi;rw[hd]at zT;rw[hd,hp];clear hd hp;go_enter func92,ntmps92;go_wp2_with fail
 have BJ:Fr aU w _:=((Fr.refl aU w).alloc (.cells #[.bool g.o.ao,.string g.o.host,.int .i64 g.o.port,.bool g.proxy,.string g.user,.string g.pass,.int .i64 g.a.scheme,.string g.a.cj,.string g.a.dk,.string g.a.e9,.bool g.a.eP,.string g.a.iI,.bool g.a.fx,.slice ad m.a.dom.length cd,.int .i64 g.count,.slice ap m.paths.length cp] 137)).alloc (.cells iT 137)
 have b0:=Below.heap_alloc (w.alloc (.cells #[.bool g.o.ao,.string g.o.host,.int .i64 g.o.port,.bool g.proxy,.string g.user,.string g.pass,.int .i64 g.a.scheme,.string g.a.cj,.string g.a.dk,.string g.a.e9,.bool g.a.eP,.string g.a.iI,.bool g.a.fx,.slice ad m.a.dom.length cd,.int .i64 g.count,.slice ap m.paths.length cp] 137)) (.cells iT 137) w.heap.size aK;rw[aB]at b0
 have b1:=aB (w.alloc (.cells #[.bool g.o.ao,.string g.o.host,.int .i64 g.o.port,.bool g.proxy,.string g.user,.string g.pass,.int .i64 g.a.scheme,.string g.a.cj,.string g.a.dk,.string g.a.e9,.bool g.a.eP,.string g.a.iI,.bool g.a.fx,.slice ad m.a.dom.length cd,.int .i64 g.count,.slice ap m.paths.length cp] 137)) (.cells iT 137)
 rw[show(w.alloc (.cells #[.bool g.o.ao,.string g.o.host,.int .i64 g.o.port,.bool g.proxy,.string g.user,.string g.pass,.int .i64 g.a.scheme,.string g.a.cj,.string g.a.dk,.string g.a.e9,.bool g.a.eP,.string g.a.iI,.bool g.a.fx,.slice ad m.a.dom.length cd,.int .i64 g.count,.slice ap m.paths.length cp] 137)).heap.size=w.heap.size+1 from aK]at b1
 generalize (w.alloc (.cells _ 137)).alloc _=W at BJ b0 b1;have xi:=xi.dv BJ;have zT:=zT.dv BJ;refine(gZ base _ m.paths W xi).mono ?_;rintro e u1⟨a1,c1,rfl,qt,dt⟩;have ru:=dt.keep b0 (fun h=>h);have BK:=dt.keep b1 (fun h=>h);have BL:=zT.dv dt;have yy:=BJ.trans dt;have Gk:u1.cell? ⟨w.heap.size,13,none⟩=some (.slice ad m.a.dom.length cd):=by simp[World.cell?,ru]
 have BM:u1.cell? ⟨w.heap.size,15,none⟩=some (.slice ap m.paths.length cp):=by simp[World.cell?,ru]
 have f15:u1.frozen? ⟨w.heap.size,15,none⟩=false:=by simp[World.frozen?,ru]
 clear BJ b0 b1 dt xi zT;have EA:w.heap.size<=u1.heap.size:=yy.size;go_wp2_with fail
 have gB:=yy.eC (p:=⟨w.heap.size,15,none⟩) (ar _) (.slice a1 m.paths.length c1);have b0:=ba ru 15 (.slice a1 m.paths.length c1);have b1:=(eF (w:=u1) (b:=w.heap.size) (g:=w.heap.size+1) ab 15 (.slice a1 m.paths.length c1)).trans BK;have pL:jc base u1 (one w.heap.size):=by
  rintro k rfl hk;exact⟨fE,fun c f e=>by rw[ru]at e;cases e⟩
 have ji:Fr (one w.heap.size) u1 (u1.setCell ⟨w.heap.size,15,none⟩ (.slice a1 m.paths.length c1)):=(Fr.refl (one w.heap.size) u1).setCell (p:=⟨w.heap.size,15,none⟩) (fun _=>rfl) _;have vH:=qt.fr ji pL;have iP:=BL.fr ji pL;clear qt BL pL ji ru BK yy Gk BM f15;generalize u1.setCell ⟨w.heap.size,15,none⟩ (.slice a1 m.paths.length c1)=U at *
 refine(gZ base _ m.a.dom U iP).mono ?_;rintro e u2⟨a2,c2,rfl,Gl,mY⟩
 have ru:u2.heap[w.heap.size]?=some (.cells #[.bool g.o.ao,.string g.o.host,.int .i64 g.o.port,.bool g.proxy,.string g.user,.string g.pass,.int .i64 g.a.scheme,.string g.a.cj,.string g.a.dk,.string g.a.e9,.bool g.a.eP,.string g.a.iI,.bool g.a.fx,.slice ad m.a.dom.length cd,.int .i64 g.count,.slice a1 m.paths.length c1] 137 (0,0)):=mY.keep b0 (fun h=>h);have BK:=mY.keep b1 (fun h=>h)
 have Gm:=vH.dv mY;have HF:=gB.trans mY;have Gk:u2.cell? ⟨w.heap.size,13,none⟩=some (.slice ad m.a.dom.length cd):=by simp[World.cell?,ru]
 have f13:u2.frozen? ⟨w.heap.size,13,none⟩=false:=by simp[World.frozen?,ru]
 have b2:(u2.setCell ⟨w.heap.size,13,none⟩ (.slice a2 m.a.dom.length c2)).heap[w.heap.size]?=some (.cells #[.bool g.o.ao,.string g.o.host,.int .i64 g.o.port,.bool g.proxy,.string g.user,.string g.pass,.int .i64 g.a.scheme,.string g.a.cj,.string g.a.dk,.string g.a.e9,.bool g.a.eP,.string g.a.iI,.bool g.a.fx,.slice a2 m.a.dom.length c2,.int .i64 g.count,.slice a1 m.paths.length c1] 137 (0,0)):=ba ru 13 (.slice a2 m.a.dom.length c2)
 have b3:=(eF (w:=u2) (b:=w.heap.size) (g:=w.heap.size+1) ab 13 (.slice a2 m.a.dom.length c2)).trans BK;have pL:jc base u2 (one w.heap.size):=by
  rintro k rfl hk;exact⟨fE,fun c f e=>by rw[ru]at e;cases e⟩
 have ji:Fr (one w.heap.size) u2 (u2.setCell ⟨w.heap.size,13,none⟩ (.slice a2 m.a.dom.length c2)):=(Fr.refl (one w.heap.size) u2).setCell (p:=⟨w.heap.size,13,none⟩) (fun _=>rfl) _;have I5:=Gm.fr ji pL;have I6:=Gl.fr ji pL;have gL:=HF.eC (p:=⟨w.heap.size,13,none⟩) (ar _) (.slice a2 m.a.dom.length c2);have B2:=O b2;have B3:=O b3;clear b0 b1 ru BK b2 b3 pL ji Gm vH iP Gl HF gB mY
 have dT:(#[.bool g.o.ao,.string g.o.host,.int .i64 g.o.port,.bool g.proxy,.string g.user,.string g.pass,.int .i64 g.a.scheme,.string g.a.cj,.string g.a.dk,.string g.a.e9,.bool g.a.eP,.string g.a.iI,.bool g.a.fx,.slice a2 m.a.dom.length c2,.int .i64 g.count,.slice a1 m.paths.length c1]:Array Value).all (·.oneCell')=true:=all_oneCell_toArray (kT (r:={g with a:={g.a with dom:=.slice a2 m.a.dom.length c2},paths:=.slice a1 m.paths.length c1}) rfl rfl)
 have uz:=O dT;clear dT;go_wp2_with (first|((with_reducible refine dC 13 ?_);refine wpList_load_row rfl 137 (.tmp 1) rfl w.heap.size rfl _ _ (0,0) _ B2.o underlying137 rfl af ?_)|((with_reducible refine dm 137 ?_);go_must(refine wpList_store_row rfl 137 (.tmp 2) (.tmp 13) rfl (w.heap.size+1) _ rfl rfl _ iT B3.o af rfl uz.o ?_))|fail)
 have pL:jc base (u2.setCell ⟨w.heap.size,13,none⟩ (.slice a2 m.a.dom.length c2)) (one (w.heap.size+1)):=by
  rintro k rfl hk;exact⟨ab,fun c f e=>by rw[B3.o]at e;cases e⟩
 generalize (u2.setCell ⟨w.heap.size,13,none⟩ (.slice a2 m.a.dom.length c2))=V at *
 have ji:Fr (one (w.heap.size+1)) V (V.setRow (w.heap.size+1) #[.bool g.o.ao,.string g.o.host,.int .i64 g.o.port,.bool g.proxy,.string g.user,.string g.pass,.int .i64 g.a.scheme,.string g.a.cj,.string g.a.dk,.string g.a.e9,.bool g.a.eP,.string g.a.iI,.bool g.a.fx,.slice a2 m.a.dom.length c2,.int .i64 g.count,.slice a1 m.paths.length c1]):=(Fr.refl (one (w.heap.size+1)) V).setRow (fun _=>rfl) _
 refine bodyPost_ret (results_cell_row bq _ _ (w.heap.size+1) 137 #[.bool g.o.ao,.string g.o.host,.int .i64 g.o.port,.bool g.proxy,.string g.user,.string g.pass,.int .i64 g.a.scheme,.string g.a.cj,.string g.a.dk,.string g.a.e9,.bool g.a.eP,.string g.a.iI,.bool g.a.fx,.slice a2 m.a.dom.length c2,.int .i64 g.count,.slice a1 m.paths.length c1] (0,0) _ rfl (setRow_heap V (w.heap.size+1) _ _ _ _ B3.o) underlying137 rfl af) rfl ?_
 obtain⟨h1,h2,h3,h4,⟨k1,k2,k3,k4,k5,k6,k7,_⟩,h6,_⟩:=H.o;exact⟨{g with a:={g.a with dom:=.slice a2 m.a.dom.length c2},paths:=.slice a1 m.paths.length c1},rfl,⟨h1,h2,h3,h4,⟨k1,k2,k3,k4,k5,k6,k7,I6.fr ji pL⟩,h6,I5.fr ji pL⟩,kT rfl rfl,gL.setRow (fun h=>absurd h ab) _⟩
open Go.RowKit Go.Sort
abbrev dP:=ai×ai
def dP.cells(p:dP):List Value:=[.string p.1,.string p.2]
def lF(w:World)(v:Value)(ps:List dP):Prop:=cz 2 w v (ps.map dP.cells)
def A2(s:ai):ai:=⟨(lr s.data.toList).toArray⟩
def D1(ps:List dP):List ai:=(ps.filter fun p=>!nW p.1 p.2).map fun p=>A2 p.1
def IC(ps:List dP):List ai:=(ps.filter fun p=>nW p.1 p.2).map fun p=>A2 p.1
def nB(ps:List dP):Nat:=((ps.filter fun p=>nW p.1 p.2).map fun p=>p.2.size).sum
def D2(ps:List dP):List ai:=D1 ps++(if 1024<nB ps then IC ps else [])
def yi(ps:List dP):List (aw):=Lib.compact (yf ((D2 ps).map fun s=>s.data.toList))
def yj(ps:List dP):List ai:=(yi ps).map fun l=>⟨l.toArray⟩
def Ba:Bs:=[117,115,101,114,110,97,109,101]
def D6:Bs:=[117,114,105]
def Bb:Bs:=[114,101,115,112,111,110,115,101]
def ID:Bs:=[110,99]
def vr:Bs:=[99,110,111,110,99,101]
def D7:Bs:=[68,105,103,101,115,116]
def Bc(scheme:Int)(eP:Bool):Bs:=(if scheme=3 then x7 else u_)++(if eP then rS else [])
structure fb where
 scheme:Int
 cj:Bs
 dk:Bs
 e9:Bs
 eP:Bool
 iI:Bs
 user:Bs
 uri:Bs
 Bd:Bs
 aW:Bs
 count:Bs
def qP(n v:Bs):fW×Bs:=((n,v),xX v)
def pP(n v:Bs):fW×Bs:=((n,v),v)
def fb.head(d:fb):List (fW×Bs):=[qP Ba d.user,qP rR d.cj,qP rT d.dk,qP D6 d.uri,qP Bb d.Bd,pP AQ (Bc d.scheme d.eP)]
def fb.two(d:fb):List (fW×Bs):=if d.iI.isEmpty then []else [pP AR d.iI,pP ID d.count]
def fb.cn(d:fb):List (fW×Bs):=if !d.iI.isEmpty||d.eP then [qP vr d.aW]else []
def fb.op(d:fb):List (fW×Bs):=if d.e9.isEmpty then []else [qP lB d.e9]
def fb.r_(d:fb):List (fW×Bs):=d.head++(d.two++(d.cn++d.op))
def fb.fair(d:fb):Bool:=jG d.user&&(jG d.cj&&(jG d.dk&&(jG d.uri&&(jG d.Bd&&((!(!d.iI.isEmpty||d.eP)||jG d.aW)&&(d.e9.isEmpty||jG d.e9))))))
def fb.text(d:fb):Bs:=D7++32 :: xa d.r_
theorem Fr.se(h:Fr aU w w'):Fr S w w':=h.mono (fun _ _ h=>absurd h (fun h=>h))
def Bn:List Int:=[0,1,56,2,57,49,28,3,61,58,42,50,38,29,17,4,62,47,59,36,45,43,51,22,53,39,33,30,24,18,12,5,63,55,48,27,60,41,37,16,46,35,44,21,52,32,23,11,54,26,40,15,34,20,31,10,25,14,19,9,13,8,7,6]
theorem jT(h:laidMet prog laid W)(hm:("math/bits.deBruijn64tab",Lib.tabData .u8 Bn)∈laid/\True):ib W 9 .u8 Bn :=
 gh (fc h hm.1 (g:=9) af af underlying322 underlying5 af af) af ae
def ef.cH(o:ef):x_:=⟨o.ao,o.host.data.toList,o.port⟩
theorem om:(prog.info? 137).map (fun i=>(i.zero,i.size,i.bytes))=some (some (.agg iT),16,216):=af
def qw(base:Nat)(w:World)(gs:List (aC aH))(v:Value)(w':World):Prop:=er base w' v gs/\∀k,v.ownBlock=some k->w.heap.size<=k
def oo(base:Nat)(w:World)(gs:List (aC aH))(e:Ending)(w':World):Prop :=
 ∃v,e=.returned v/\qw base w gs v w'/\Fr aU w w'
def BN(base:Nat)(w:World)(gs:List (aC aH))(v i:Value)(wr:World):Prop :=
 ∃(k:Nat) (rs:List (aC Value)),k<=gs.length/\i=.int .i64 k/\OwnRows w.heap.size 137 16 wr v (rs.map aC.cells)/\fo (aC.Reads (cZ base wr)) rs (gs.take k)/\Fr aU w wr
theorem oq(base:Nat)(w:World)(b:Nat)(gv wv:Value)(gs:List (aC aH))(ws:List (aP aH))(h:b_ base w b gv wv gs ws)(EB:gs.length<68719476736) :
  Calls prog 58 #[.pointer (some ⟨b,0,none⟩)] w (oo base w gs):=by
 have h0:=h.c0;obtain⟨av,cv,hv⟩:=h.bC.form;subst hv;have sa:=h.lt;have fE:base<=w.heap.size:=by have:=h.low;omega
 go_enter func58,ntmps58;go_wp2;clear h0;go_loopw[3,11] (BN base w gs) (fun _ i _=>gs.length-(intOf i).toNat)
 case atStart=>exact⟨0,[],az _,rfl,aV _ _ _ _,.nil,Fr.refl _ _⟩
 case round =>
  obtain⟨k,rs,hk,rfl,bO,gm,dU⟩:=hrel;by_cases h_:k<gs.length
  ·obtain⟨bk,c,dt,EC,r,vI,hr,hcell⟩:=(h.dv dU).bC.at h_;cases dt;unfold maxLen at EC;obtain⟨x,hx⟩:∃x,x=r.cells:=⟨_,rfl⟩;have BO:x.length=16:=by rw[hx];rfl
   have aF:=fun W=>run_storeCells_new (P:=prog) W 137 #[.bool false,.string ⟨#[]⟩,.int .i64 0,.bool false,.string ⟨#[]⟩,.string ⟨#[]⟩,.int .i64 0,.string ⟨#[]⟩,.string ⟨#[]⟩,.string ⟨#[]⟩,.bool false,.string ⟨#[]⟩,.bool false,.slice none 0 0,.int .i64 0,.slice none 0 0] x (by rw[BO];rfl) (by rw[hx];exact vI);rw[<-hx]at hcell;have HX:=O hx
   have Gn:(prog.info? 137).map (·.size)=some x.toArray.size:=by rw[bb,BO];kernel_rfl
   have C_:=O Gn;clear hx Gn;obtain⟨av,cv,yz⟩:=bO.form;subst yz;rw[ag,gm.len,bE,Nat.min_eq_left hk]at bO ⊢
   go_wp2_with (first|((with_reducible refine dC 14 ?_);refine wpList_load_mid rfl 137 (.tmp 13) rfl bk (k*16) rfl x _ hcell underlying137 rfl (by have h:=C_.o;rw[bb]at h;exact h) ?_)|((with_reducible refine dC 16 ?_);refine wpList_load_row rfl 137 (.tmp 5) rfl wr.heap.size rfl _ x.toArray (0,0) _ (aB wr _) underlying137 rfl C_.o ?_)|fail)
   have mz:Fr aU wr (wr.alloc (.cells x.toArray 137)):=(Fr.refl aU wr).alloc _;have qx:=hr.mono (fun _ _ h=>h.dv mz);have mZ:=bO.alloc (.cells x.toArray 137);have jX:=gm.mono (fun _ _ h=>h.mono (fun _ _ h=>h.dv mz));have jx:=dU.trans mz;have kQ:w.heap.size<=wr.heap.size:=dU.size;have sH:=O (oh base r gs[k] _ cw qx);rw[<-HX.o]at sH;clear hr qx mz vI aF hcell bO gm dU
   generalize wr.alloc (.cells x.toArray 137)=W2 at *
   refine sH.o.mono ?_;rintro e w3 ED;obtain⟨r3,rfl,nb,xj,mY⟩:=ED;have gP:=mZ.fr mY (fun _ _ h=>h);have jY:=jX.mono (fun _ _ h=>h.mono (fun _ _ h=>h.dv mY));have vJ:=jx.trans mY;clear sH mZ jX jx mY;obtain⟨y,hy⟩:∃y,y=r3.cells:=⟨_,rfl⟩;have vn:y.length=16:=by rw[hy];rfl
   rw[<-hy]at xj ⊢;have HY:=O hy;clear hy;have jr:=O gP;clear gP;have BP:=mP y #[.bool false,.string ⟨#[]⟩,.int .i64 0,.bool false,.string ⟨#[]⟩,.string ⟨#[]⟩,.int .i64 0,.string ⟨#[]⟩,.string ⟨#[]⟩,.string ⟨#[]⟩,.bool false,.string ⟨#[]⟩,.bool false,.slice none 0 0,.int .i64 0,.slice none 0 0] (by rw[vn];rfl);have I7:w.heap.size<=w3.heap.size:=vJ.size;have xk:=jY.len;rw[bE,Nat.min_eq_left hk]at xk
   have KQ:=O xk;have xf:(rs.map aC.cells).length<68719476736:=by rw[ag,xk];omega
   clear xk;go_wp2_with (at_builtin;go_must(refine fM rfl _ _ 98 137 rfl 16 216 (.agg iT) underlying98 om rfl ae ae w.heap.size (.slice av k cv) (rs.map aC.cells) rfl (jr.o.alloc _) w3.heap.size 1 y rfl vn xj (fun i u hi=>by rw[World.cell?_alloc_mark];simpa using hi) xf cw ?_);intro v' w4 eA zU)
   have nL:=Fr.pH _ zU;have kD:=jr.o.off (base:=base) fE ae;rw[HY.o]at eA;refine⟨⟨k+1,rs++[r3],ab,bn,by rw[bI];exact eA,?_,vJ.step nL (fun j hj hS=>by have h2:=jr.o.block j hS;omega)⟩,by simp[intOf];omega⟩;rw[gY (List.getElem?_eq_getElem h_)];exact(jY.mono (fun _ _ h=>h.mono (fun _ _ h=>h.fr nL kD))).app (.cons (nb.mono (fun _ _ h=>h.fr nL kD)) .nil)
  ·rw[bj ab]at gm;obtain⟨av,cv,yz⟩:=bO.form;subst yz;go_wp2;go_ret;exact⟨_,rfl,⟨⟨rs,bO.up fE,gm⟩,bO.block⟩,dU⟩
theorem qC(a:eh aH)(x:kA):a.scheme<=(fL a x).scheme:=by
 unfold fL;split
 ·exact bV _
 ·split
  ·omega
  ·exact bV _
theorem vR:∀(l:List kA) (a:eh aH),a.scheme<=(l.foldl fL a).scheme
 |[],_=>bV _
 |x :: l,a=>Int.le_trans (qC a x) (vR l (fL a x))
theorem pS:∀(l:List kA) (a:eh aH),l.foldl fL a=a\/∃x∈l,lC x=some (l.foldl fL a)
 |[],_=>Or.inl rfl
 |x :: l,a=>by
  rw[List.foldl_cons];rcases pS l (fL a x)with h|⟨y,hy,h⟩
  ·rw[h];unfold fL;split
   ·exact Or.inl rfl
   ·rename_i b hb;split
    ·exact Or.inr ⟨x,cq .., hb⟩
    ·exact Or.inl rfl
  ·exact Or.inr ⟨y,br _ hy,h⟩
structure eV where
 bg:ef
 o:ef
 path:ai
 query:ai
 dB:Bool
 method:ai
 head:ai
 rX:Int
def eV.cells(p:eV):List Value:=[.bool p.bg.ao,.string p.bg.host,.int .i64 p.bg.port,.bool p.o.ao,.string p.o.host,.int .i64 p.o.port,.string p.path,.string p.query,.bool p.dB,.string p.method,.string p.head,.int .i64 p.rX]
def eV.jo(p q:eV):Bool:=p.bg.jo q.bg&&(p.o.jo q.o&&(p.path.toList==q.path.toList&&(p.query.toList==q.query.toList&&(p.dB==q.dB&&(p.method.toList==q.method.toList&&(p.head.toList==q.head.toList&&p.rX==q.rX))))))
def star:aw:=[42]
def A3:aw:=[97,117,116,104,111,114,105,122,97,116,105,111,110]
def eV.lets(m:ai)(dB:Bool)(p:eV):Bool:=p.method.toList==m.toList||(p.method.toList==star&&!dB)
def eV.A4(h:ai)(dB:Bool)(p:eV):Bool:=p.head.toList==h.toList||(p.head.toList==star&&(!dB&&h.toList !=A3))
def vo(m:ai)(dB:Bool)(bo:List ai)(ps:List eV):Bool :=
 (vg m||ps.any (eV.lets m dB))&&bo.all fun h=>ps.any (eV.A4 h dB)
structure gb where
 bg:ef
 o:ef
 path:ai
 query:ai
 method:ai
 bo:List dP
 dB:Bool
def gb.nX(r:gb)(ps:List eV):Bool:=vo (lD r.method) r.dB (yj r.bo) ps
def gb.needs(r:gb):Bool:=!r.bg.jo r.o&&!r.nX []
def eV.like(p q:eV):Bool:=({p with rX:=q.rX}:eV).jo q
def eV.alive(now:Int)(p:eV):Bool:=decide (now<p.rX)
def D3(b:List eV)(p:eV):List eV:=(b.filter fun q=>!p.like q)++[p]
def lG(b l:List eV)(now:Int):List eV :=
 let c:=(l.foldl D3 b).filter (eV.alive now)
 c.drop (c.length-32)
def gb.D4(r:gb)(now:Int)(p:eV):Bool:=p.alive now&&(p.bg.jo r.bg&&((p.o.jo r.o&&(p.path.toList==r.path.toList&&p.query.toList==r.query.toList))&&(p.dB||!r.dB)))
def vp(b:List eV)(r:gb)(now:Int):List eV:=b.filter (r.D4 now)
def nY(b:List eV)(r:gb)(now:Int):Bool:=!r.needs||r.nX (vp b r now)
theorem mN(b l:List eV)(now:Int):(lG b l now).length<=32:=by
 unfold lG;simp only[bX];omega
section
variable {w w' : World} {x : Nat} {sc tok : ByteArray} {pv : Value}
end
theorem OwnRows.jR(h:OwnRows base e k w v xs)(hg:v.ownBlock=some g):∃cur,w.heap[g]?=some (.cells cur e (0,0)):=by
 rcases h.2.2 with ⟨hv,_⟩|⟨g',cap,cur,hv,_,hh,_⟩
 ·rw[hv]at hg;simp[Value.ownBlock]at hg
 ·rw[hv]at hg;simp[Value.ownBlock]at hg;subst hg;exact⟨cur,hh⟩
theorem OwnRows.not{t:TypeId}{cs:Array Value}{f:Nat×Nat}(h:OwnRows base e k w v xs)(hb:w.heap[g]?=some (.cells cs t f))(ht:t≠e):v.ownBlock≠some g:=by
 intro hg;obtain⟨cur,hc⟩:=h.jR hg;rw[hc]at hb;cases hb;exact ht rfl
structure jU where
 uv:Bool
 eP:Bool
 cj:ai
 dk:ai
 iI:ai
 user:ai
 pass:ai
 method:ai
 target:ai
 body:ai
 aW:ai
 n:Nat
def vB:ai:=⟨#[97,117,116,104,45,105,110,116]⟩
def Bo(x:jU):ai:=if x.eP then jd x.uv [jd x.uv [x.user,x.cj,x.pass],x.dk,x.aW]else jd x.uv [x.user,x.cj,x.pass]
def Bp(x:jU):ai:=if x.iI=vB then jd x.uv [x.method,x.target,jd x.uv [x.body]]else jd x.uv [x.method,x.target]
def Bq(x:jU):ai:=if x.iI=.empty then jd x.uv [Bo x,x.dk,Bp x]else jd x.uv [Bo x,x.dk,⟨(sg x.n).toArray⟩,x.aW,x.iI,Bp x]
def vF(path query:ai):ai:=if query.size=0 then path else(path++⟨#[63]⟩)++query
theorem OwnRows.kind{b:Nat}(h:OwnRows b e k w v xs)(hg:own v g):∃c,w.heap[g]?=some (.cells c e (0,0)):=by
 obtain⟨cap,cur,_,_,h2,_⟩:=h.open hg;exact⟨cur,h2⟩
def nd(b:Nat)(gv wv:Value):Nat->Prop:=fun k=>k=b\/own gv k\/own wv k
section
variable {base : Nat} {w w' : World} {b : Nat} {gv wv : Value} {gs : List (aC aH)} {ws : List (aP aH)}
theorem b_.BQ(h:b_ base w b gv wv gs ws)(hk:own gv k):∃c,w.heap[k]?=some (.cells c 137 (0,0)):=by
 obtain⟨rs,h1,_⟩:=h.bC;exact h1.kind hk
theorem b_.BR(h:b_ base w b gv wv gs ws)(hk:own wv k):∃c,w.heap[k]?=some (.cells c 156 (0,0)):=by
 obtain⟨rs,h1,_⟩:=h.waits;exact h1.kind hk
theorem b_.EE(h:b_ base w b gv wv gs ws)(hk:own gv k):base<=k:=by
 obtain⟨rs,h1,_⟩:=h.bC;exact h1.block k hk
theorem b_.EF(h:b_ base w b gv wv gs ws)(hk:own wv k):base<=k:=by
 obtain⟨rs,h1,_⟩:=h.waits;exact h1.block k hk
end
def BS(go:ef)(gx:Bool)(gr:ai)(o:ef)(proxy:Bool)(cj:ai):Bool:=go.jo o&&(gx==proxy&&gr.toList==cj.toList)
def sI(o:ef)(proxy:Bool)(cj:ai)(g:aC aH):Bool:=BS g.o g.proxy g.a.cj o proxy cj
