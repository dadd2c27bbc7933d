/- Lemmas for the law's walk. -/
import Derived.Test.YtnckmcnffadjoaaGreatDoorPk22
set_option maxRecDepth 100000
set_option maxHeartbeats 16000000
set_option linter.unusedSimpArgs false
namespace Go.Proofs.YtnckmcnffadjoaaGreatDoor
open Go.Proofs.Tryz
open Go.RowKit
variable {b i k base B o M c fuel:Nat} {gv wv bv:Value} {gs:List (aP bD)} {ws:List (bI bD)} {ps:List ef} {S:Nat->Prop} {a w w':World} {x:dx} {cs:List Value} {p P F q:dM} {l:List nu}
def lo(c:gz×Int):List Value:=[.bool c.1.aF,.string c.1.host,.int .i64 c.1.port,.int .i64 c.2]
structure cU where
 b:Nat
 gv:Value
 wv:Value
 k:Nat
 kv:Value
 cv:Value
def cU.cells(v:cU):List Value:=[.pointer (some ⟨v.b,0,none⟩),.pointer (some ⟨v.k,0,none⟩),v.cv]
structure eP (base:Nat) (w:World) (v:cU) (p:dM):Prop where
 oC:dB base w v.b v.gv v.wv p.bF p.waits
 book:eO base w v.k v.kv p.book
 dE:OwnRows base 97 4 w v.cv (p.dE.map lo)
def cU.ke(v:cU):Nat->Prop:=fun i=>dt v.b v.gv v.wv i\/iA v.k v.kv i\/own v.cv i
section
variable {base : Nat} {w w' : World} {v : cU} {p : dM}
theorem dB.ir(h:dB base w b gv wv gs ws)(hi:dt b gv wv i) :
  ∃c t,w.heap[i]?=some (.cells c t (0,0))/\(t=89\/t=114\/t=133):=by
 rcases hi with rfl|hi|hi
 ·exact⟨_,_,h.eI,Or.inl rfl⟩
 ·obtain⟨c,e⟩:=h.uj hi;exact⟨_,_,e,Or.inr (Or.inl rfl)⟩
 ·obtain⟨c,e⟩:=h.wQ hi;exact⟨_,_,e,Or.inr (Or.inr rfl)⟩
theorem eO.ir(h:eO base w b bv ps)(hi:iA b bv i) :
  ∃c t,w.heap[i]?=some (.cells c t (0,0))/\(t=92\/t=155):=by
 rcases hi with rfl|hi
 ·exact⟨_,_,h.eI,Or.inl rfl⟩
 ·obtain⟨c,e⟩:=h.rows.G2 hi;exact⟨_,_,e,Or.inr rfl⟩
theorem dB.nD(h:dB base w b gv wv gs ws)(hi:dt b gv wv i):base<=i:=by
 rcases hi with rfl|hi|hi
 ·exact h.low
 ·exact h.aik hi
 ·exact h.ail hi
theorem eO.nD(h:eO base w b bv ps)(hi:iA b bv i):base<=i:=by
 rcases hi with rfl|hi
 ·exact h.low
 ·exact h.rows.block _ hi
theorem eP.ir(h:eP base w v p)(hi:v.ke i) :
  ∃c t,w.heap[i]?=some (.cells c t (0,0))/\(t=89\/t=114\/t=133\/t=92\/t=155\/t=97):=by
 rcases hi with hi|hi|hi
 ·obtain⟨c,t,e,ht⟩:=h.oC.ir hi;exact⟨c,t,e,by rcases ht with rfl|rfl|rfl<;>simp⟩
 ·obtain⟨c,t,e,ht⟩:=h.book.ir hi;exact⟨c,t,e,by rcases ht with rfl|rfl<;>simp⟩
 ·obtain⟨c,e⟩:=h.dE.G2 hi;exact⟨c,_,e,aQ⟩
theorem eP.nD(h:eP base w v p)(hi:v.ke i):base<=i:=by
 rcases hi with hi|hi|hi
 ·exact h.oC.nD hi
 ·exact h.book.nD hi
 ·exact h.dE.block _ hi
theorem eP.jh(h:eP base w v p)(hi:v.ke i):i<w.heap.size:=by
 obtain⟨c,t,e,_⟩:=h.ir hi;exact bj e
theorem eP.off(h:eP base w v p):sr base w v.ke:=fun i hi _=>by
 refine⟨h.nD hi,fun c f e=>?_⟩;obtain⟨c',t,e',ht⟩:=h.ir hi;rw[e]at e';cases e';revert ht;decide
theorem eP.fr(h:eP base w v p)(hf:Fr S w w')(ho:sr base w S)(hn:∀i,v.ke i->¬S i):eP base w' v p :=
 ⟨h.oC.fr hf ho (hn _ (Or.inl (Or.inl rfl))) (fun _ hk=>hn _ (Or.inl (Or.inr (Or.inl hk)))) (fun _ hk=>hn _ (Or.inl (Or.inr (Or.inr hk)))),
  h.book.fr hf (fun _ hk=>hn _ (Or.inr (Or.inl hk))),h.dE.fr hf (fun _ hk=>hn _ (Or.inr (Or.inr hk)))⟩
theorem eP.dh(h:eP base w v p)(hf:Fr aR w w'):eP base w' v p:=h.fr hf (fC _ _) (fun _ _ h=>h)
theorem eP.xu(h:eP base w v p)(hi:dt v.b v.gv v.wv i):¬iA v.k v.kv i:=fun hj=>by
 obtain⟨c,t,e,ht⟩:=h.oC.ir hi;obtain⟨c',t',e',ht'⟩:=h.book.ir hj;rw[e]at e';cases e';rcases ht with rfl|rfl|rfl<;>revert ht'<;>decide
theorem eP.xv(h:eP base w v p)(hi:dt v.b v.gv v.wv i):¬own v.cv i:=fun hj=>by
 obtain⟨c,t,e,ht⟩:=h.oC.ir hi;obtain⟨c',e'⟩:=h.dE.G2 hj;rw[e]at e';cases e';revert ht;decide
theorem eP.G9(h:eP base w v p)(hi:iA v.k v.kv i):¬own v.cv i:=fun hj=>by
 obtain⟨c,t,e,ht⟩:=h.book.ir hi;obtain⟨c',e'⟩:=h.dE.G2 hj;rw[e]at e';cases e';revert ht;decide
end
def iP(pv:Nat->cU)(now:Int):List Value:=(pv 0).cells++((pv 1).cells++((pv 2).cells++((pv 3).cells++[.int .i64 now])))
def yO(pv:Nat->cU)(i:Nat)(v:cU):Nat->cU:=fun j=>if j=i then v else pv j
def po(cs:List Value)(o:Nat)(v:cU):List Value:=((cs.set o (.pointer (some ⟨v.b,0,none⟩))).set (o+1) (.pointer (some ⟨v.k,0,none⟩))).set (o+2) v.cv
theorem tq(pv:Nat->cU)(i:Nat)(v:cU):yO pv i v i=v:=by unfold yO;simp
theorem mI(pv:Nat->cU){j:Nat}(v:cU)(h:j≠i):yO pv i v j=pv j:=by unfold yO;simp[h]
theorem yP(pv:Nat->cU)(now:Int)(hi:i<4)(v:cU):po (iP pv now) (i*3) v=iP (yO pv i v) now:=by
 unfold po iP yO cU.cells
 match i,hi with
 |0,_=>rfl
 |1,_=>rfl
 |2,_=>rfl
 |3,_=>rfl
theorem xx(pv:Nat->cU)(now:Int)(hi:i<4):(iP pv now)[i*3]?=some (.pointer (some ⟨(pv i).b,0,none⟩))/\(iP pv now)[i*3+1]?=some (.pointer (some ⟨(pv i).k,0,none⟩))/\(iP pv now)[i*3+2]?=some (pv i).cv:=by
 unfold iP cU.cells
 match i,hi with
 |0,_=>exact⟨rfl,rfl,rfl⟩
 |1,_=>exact⟨rfl,rfl,rfl⟩
 |2,_=>exact⟨rfl,rfl,rfl⟩
 |3,_=>exact⟨rfl,rfl,rfl⟩
theorem Oi(pv:Nat->cU)(now:Int):(iP pv now)[12]?=some (.int .i64 now):=rfl
theorem yc(pv:Nat->cU)(now n:Int):(iP pv now).set 12 (.int .i64 n)=iP pv n:=rfl
structure cz (base:Nat) (w:World) (B:Nat) (pv:Nat->cU) (x:dx):Prop where
 low:base<=B
 eI:w.heap[B]?=some (.cells (iP pv x.now).toArray 86 (0,0))
 part:∀i,i<4->eP base w (pv i) (x.part i)
 apart:∀i j,i<4->j<4->i≠j->∀k,(pv i).ke k->¬(pv j).ke k
def lz(B:Nat)(pv:Nat->cU):Nat->Prop:=fun k=>k=B\/∃i,i<4/\(pv i).ke k
def dk(base:Nat)(w:World)(B:Nat)(pv:Nat->cU)(x:dx)(w':World):Prop :=
 ∃yZ,cz base w' B yZ x/\Fr (lz B pv) w w'/\∀k,lz B yZ k->lz B pv k\/w.heap.size<=k
section
variable {base : Nat} {w w' : World} {B : Nat} {pv : Nat → cU} {x : dx}
theorem cz.lt(h:cz base w B pv x):B<w.heap.size:=bj h.eI
theorem cz.jh(h:cz base w B pv x)(hk:lz B pv k):k<w.heap.size:=by
 rcases hk with rfl|⟨i,hi,hk⟩
 ·exact h.lt
 ·exact(h.part i hi).jh hk
theorem cz.nD(h:cz base w B pv x)(hk:lz B pv k):base<=k:=by
 rcases hk with rfl|⟨i,hi,hk⟩
 ·exact h.low
 ·exact(h.part i hi).nD hk
theorem cz.Aj(h:cz base w B pv x)(hi:i<4):¬(pv i).ke B:=fun hk=>by
 obtain⟨c,t,e,ht⟩:=(h.part i hi).ir hk;rw[h.eI]at e;cases e;revert ht;decide
theorem cz.R7(h:cz base w B pv x):sr base w (one B):=by
 rintro k rfl _;exact⟨h.low,fun c f e=>by rw[h.eI]at e;cases e⟩
theorem cz.off(h:cz base w B pv x):sr base w (lz B pv):=by
 rintro k(rfl|⟨i,hi,hk⟩)hl
 ·exact h.R7 _ rfl hl
 ·exact(h.part i hi).off k hk hl
theorem cz.fr(h:cz base w B pv x)(hf:Fr S w w')(ho:sr base w S)(hn:∀k,lz B pv k->¬S k):cz base w' B pv x :=
 ⟨h.low,hf.keep h.eI (hn B (Or.inl rfl)),fun i hi=>(h.part i hi).fr hf ho (fun k hk=>hn k (Or.inr ⟨i,hi,hk⟩)),h.apart⟩
theorem cz.dh(h:cz base w B pv x)(hf:Fr aR w w'):cz base w' B pv x:=h.fr hf (fC _ _) (fun _ _ h=>h)
theorem dk.same(h:cz base w B pv x)(hf:Fr aR w w'):dk base w B pv x w' :=
 ⟨pv,h.dh hf,hf.mono (fun _ _ h=>absurd h id),fun _ hk=>Or.inl hk⟩
end
theorem dk.frame{pv:Nat->cU}{x':dx}(h:dk base w B pv x' w')(h0:cz base w B pv x)(hf:Fr aR a w)(hb:a.heap.size<=base):Fr aR a w':=by
 obtain⟨_,_,h2,_⟩:=h;refine hf.step h2 (fun k hk hw=>?_);have:=h0.nD hw;omega
structure gT (w:World) (B:Nat) (cs:List Value) (o:Nat) (v:cU):Prop where
 eI:w.heap[B]?=some (.cells cs.toArray 86 (0,0))
 c0:cs[o]?=some (.pointer (some ⟨v.b,0,none⟩))
 c1:cs[o+1]?=some (.pointer (some ⟨v.k,0,none⟩))
 c2:cs[o+2]?=some v.cv
theorem xy{v:cU}(c0:cs[o]?=some (.pointer (some ⟨v.b,0,none⟩)))(c1:cs[o+1]?=some (.pointer (some ⟨v.k,0,none⟩)))(c2:cs[o+2]?=some v.cv):po cs o v=cs:=by
 unfold po;apply jk;intro i;by_cases h2:i=o+2
 ·subst h2;rw[List.getElem?_set_self (by simp;exact(List.getElem?_eq_some_iff.1 c2).1),c2]
 rw[List.getElem?_set_ne (kY h2)];by_cases h1:i=o+1
 ·subst h1;rw[List.getElem?_set_self (by simp;exact(List.getElem?_eq_some_iff.1 c1).1),c1]
 rw[List.getElem?_set_ne (kY h1)];by_cases h0:i=o
 ·subst h0;rw[List.getElem?_set_self (List.getElem?_eq_some_iff.1 c0).1,c0]
 rw[List.getElem?_set_ne (kY h0)]
section
variable {w w' : World} {B o : Nat} {cs : List Value} {v : cU}
theorem gT.cell0(h:gT w B cs o v):w.cell? ⟨B,o,none⟩=some (.pointer (some ⟨v.b,0,none⟩)):=by simp[World.cell?,h.eI,h.c0]
theorem gT.hZ(h:gT w B cs o v):w.cell? ⟨B,o+1,none⟩=some (.pointer (some ⟨v.k,0,none⟩)):=by simp[World.cell?,h.eI,h.c1]
theorem gT.lV(h:gT w B cs o v):w.cell? ⟨B,o+2,none⟩=some v.cv:=by simp[World.cell?,h.eI,h.c2]
theorem gT.free(h:gT w B cs o v)(k:Nat):w.frozen? ⟨B,k,none⟩=false:=by simp[World.frozen?,h.eI]
theorem gT.fr(h:gT w B cs o v)(hf:Fr S w w')(hn:¬S B):gT w' B cs o v:=⟨hf.keep h.eI hn,h.c0,h.c1,h.c2⟩
theorem gT.dh(h:gT w B cs o v)(hf:Fr aR w w'):gT w' B cs o v:=h.fr hf id
end
def Ak(B:Nat)(v:cU):Nat->Prop:=fun k=>k=B\/v.ke k
def di(base:Nat)(w:World)(B:Nat)(cs:List Value)(o:Nat)(v:cU)(p:dM)(w':World):Prop :=
 ∃v',eP base w' v' p/\Fr (Ak B v) w w'/\(∀k,v'.ke k->v.ke k\/w.heap.size<=k)/\w'.heap[B]?=some (.cells (po cs o v').toArray 86 (0,0))
theorem di.same{base:Nat}{w w':World}{B o:Nat}{cs:List Value}{v:cU}{p:dM}(h:eP base w v p)(ha:gT w B cs o v)(hf:Fr aR w w'):di base w B cs o v p w' :=
 ⟨v,h.dh hf,hf.mono (fun _ _ h=>absurd h id),fun _ hk=>Or.inl hk,by rw[xy ha.c0 ha.c1 ha.c2];exact hf.keep ha.eI id⟩
theorem di.oC{base:Nat}{w w':World}{B o:Nat}{cs:List Value}{v:cU}{p:dM}(h:eP base w v p)(ha:gT w B cs o v)(hB:¬v.ke B){gs:List (aP bD)}{ws:List (bI bD)}(hp:kF base w v.b v.gv v.wv gs ws w') :
  di base w B cs o v {p with bF:=gs,waits:=ws} w':=by
 obtain⟨gv',wv',h1,h2,h3⟩:=hp;refine⟨⟨v.b,gv',wv',v.k,v.kv,v.cv⟩,⟨h1,?_,?_⟩,h2.mono (fun k _ hk=>Or.inr (Or.inl hk)),?_,?_⟩
 ·exact h.book.fr h2 (fun k hk hb=>h.xu hb hk)
 ·exact h.dE.fr h2 (fun k hk hb=>h.xv hb hk)
 ·rintro k(hk|hk|hk)
  ·rcases h3 k hk with hk|hk
   ·exact Or.inl (Or.inl hk)
   ·exact Or.inr hk
  ·exact Or.inl (Or.inr (Or.inl hk))
  ·exact Or.inl (Or.inr (Or.inr hk))
 ·show w'.heap[B]?=some (.cells (po cs o v).toArray _ _);rw[xy ha.c0 ha.c1 ha.c2];exact h2.keep ha.eI (fun hb=>hB (Or.inl hb))
theorem di.book{base:Nat}{w w':World}{B o:Nat}{cs:List Value}{v:cU}{p:dM}(h:eP base w v p)(ha:gT w B cs o v)(hB:¬v.ke B){ps:List ef}(hp:Eo base w v.k v.kv ps w') :
  di base w B cs o v {p with book:=ps} w':=by
 obtain⟨kv',h1,h2,h3⟩:=hp;have mU:sr base w (iA v.k v.kv):=fun k hk hl=>h.off k (Or.inr (Or.inl hk)) hl;refine⟨⟨v.b,v.gv,v.wv,v.k,kv',v.cv⟩,⟨?_,h1,?_⟩,h2.mono (fun k _ hk=>Or.inr (Or.inr (Or.inl hk))),?_,?_⟩
 ·exact h.oC.fr h2 mU (fun hb=>h.xu (Or.inl rfl) hb) (fun k hk hb=>h.xu (Or.inr (Or.inl hk)) hb) (fun k hk hb=>h.xu (Or.inr (Or.inr hk)) hb)
 ·exact h.dE.fr h2 (fun k hk hb=>h.G9 hb hk)
 ·rintro k(hk|hk|hk)
  ·exact Or.inl (Or.inl hk)
  ·rcases h3 k hk with hk|hk
   ·exact Or.inl (Or.inr (Or.inl hk))
   ·exact Or.inr hk
  ·exact Or.inl (Or.inr (Or.inr hk))
 ·show w'.heap[B]?=some (.cells (po cs o v).toArray _ _);rw[xy ha.c0 ha.c1 ha.c2];exact h2.keep ha.eI (fun hb=>hB (Or.inr (Or.inl hb)))
theorem di.after{base:Nat}{a w w':World}{B o:Nat}{cs:List Value}{v:cU}{p:dM}(hf:Fr aR a w)(h:di base w B cs o v p w'):di base a B cs o v p w':=by
 obtain⟨v',h1,h2,h3,h4⟩:=h;refine⟨v',h1,fX (S:=Ak B v) (hf.mono (fun _ _ h=>absurd h id)) h2 (fun _ _ h=>h),fun k hk=>?_,h4⟩;rcases h3 k hk with h|h
 ·exact Or.inl h
 ·exact Or.inr (aD hf.size h)
theorem di.then{v:cU}(h:di base a B cs o v p w)(hf:Fr aR w w'):di base a B cs o v p w':=by
 obtain⟨v',h1,h2,h3,h4⟩:=h;exact⟨v',h1.dh hf,h2.step (T:=aR) hf (fun _ _ h=>absurd h id),h3,hf.keep h4 id⟩
theorem cz.step{base:Nat}{w w':World}{B:Nat}{pv:Nat->cU}{x:dx}{i:Nat}{p:dM}(h:cz base w B pv x)(hi:i<4)(hp:di base w B (iP pv x.now) (i*3) (pv i) p w') :
  dk base w B pv (x.set i p) w':=by
 obtain⟨v',h1,h2,h3,h4⟩:=hp;have ln:∀j k,j<4->(yO pv i v' j).ke k->(pv j).ke k\/w.heap.size<=k:=by
  intro j k hj hk;by_cases Gj:j=i
  ·subst Gj;rw[tq]at hk;exact h3 k hk
  ·rw[mI pv v' Gj]at hk;exact Or.inl hk
 refine⟨yO pv i v',⟨h.low,?_,fun j hj=>?_,fun a b ha hb sG k hka NU=>?_⟩,h2.mono ?_,?_⟩
 ·rw[h4,yP pv x.now hi];rfl
 ·by_cases Gj:j=i
  ·subst Gj;rw[tq,kR];exact h1
  ·rw[mI pv v' Gj,mW _ _ Gj];refine(h.part j hj).fr h2 ?_ ?_
   ·rintro k(rfl|hk)hl
    ·exact h.R7 _ rfl hl
    ·exact(h.part i hi).off k hk hl
   ·rintro k hk(rfl|NK)
    ·exact h.Aj hj hk
    ·exact h.apart j i hj hi Gj k hk NK
 ·rcases ln a k ha hka with h5|h5
  ·rcases ln b k hb NU with h6|h6
   ·exact h.apart a b ha hb sG k h5 h6
   ·have:=(h.part a ha).jh h5;omega
  ·rcases ln b k hb NU with h6|h6
   ·have:=(h.part b hb).jh h6;omega
   ·by_cases hai:a=i
    ·by_cases hbi:b=i
     ·exact sG (hai.trans hbi.symm)
     ·rw[mI pv v' hbi]at NU;have:=(h.part b hb).jh NU;omega
    ·rw[mI pv v' hai]at hka;have:=(h.part a ha).jh hka;omega
 ·rintro k _(rfl|hk)
  ·exact Or.inl rfl
  ·exact Or.inr ⟨i,hi,hk⟩
 ·rintro k(rfl|⟨j,hj,hk⟩)
  ·exact Or.inl (Or.inl rfl)
  ·rcases ln j k hj hk with h5|h5
   ·exact Or.inl (Or.inr ⟨j,hj,h5⟩)
   ·exact Or.inr h5
theorem cz.partAt{pv:Nat->cU}(h:cz base w B pv x)(hi:i<4):gT w B (iP pv x.now) (i*3) (pv i) :=
 ⟨h.eI,(xx pv x.now hi).1,(xx pv x.now hi).2.1,(xx pv x.now hi).2.2⟩
def kx.val(r:kx):Value:=.agg #[.int .i64 r.what,.string r.head,.int .i64 r.cert]
structure jG where
 what:Int
 aL:gq Value
 proxy:Bool
 text:aj
 user:aj
 pass:aj
 bP:aj
 cert:Int
 all:Bool
 n:Int
def jG.cells(o:jG):List Value:=.int .i64 o.what :: (o.aL.cells++[.bool o.proxy,.string o.text,.string o.user,.string o.pass,.string o.bP,.int .i64 o.cert,.bool o.all,.int .i64 o.n])
def jG.dS(o:jG)(hs:List gZ):iz:=⟨o.what,o.aL.part,o.aL.dm,o.aL.o,o.aL.path,o.aL.query,o.aL.method,hs,o.aL.fU,o.aL.body,o.proxy,o.text,o.user,o.pass,o.bP,o.cert,o.all,o.n⟩
structure gH (w:World) (o:jG) (hs:List gZ):Prop where
 eo:oO w o.aL.eo hs
 aL:G0 o.aL hs
 dm:o.aL.dm.host.size<100000
 ori:o.aL.o.host.size<100000
 path:o.aL.path.size<=2000
 query:o.aL.query.size<=2000
 method:o.aL.method.size<=5000
 body:o.aL.body.size<=5000
 text:o.text.size<100000
 user:o.user.size<=5000
 pass:o.pass.size<=5000
 bP:o.bP.size<=5000
 VY: -9223372036854775808<=o.aL.dm.port/\o.aL.dm.port<=9223372036854775807
 ai5: -9223372036854775808<=o.aL.o.port/\o.aL.o.port<=9223372036854775807
 part: -9223372036854775808<=o.aL.part/\o.aL.part<=9223372036854775807
 what: -9223372036854775808<=o.what/\o.what<=9223372036854775807
 cert: -9223372036854775808<=o.cert/\o.cert<=9223372036854775807
 n: -9223372036854775808<=o.n/\o.n<=9223372036854775807
theorem gH.dh{o:jG}{hs:List gZ}(h:gH w o hs)(hf:Fr aR w w'):gH w' o hs:={h with eo:=bg h.eo hf}
abbrev cZ := @di.after
abbrev eQ := @di.oC
abbrev fu := @dk.same
abbrev ky := @cz.step
abbrev ml := @di.same
abbrev oZ := @di.book
theorem Mj(base:Nat)(w:World)(b:Nat)(v:Value)(ps:List ef)(r:gq Value)(hs:List gZ)(now:Int)(h:eO base w b v ps)(hlen:ps.length<1000000)(hr:oO w r.eo hs)(hz:G0 r hs) :
  Calls prog 33 #[.pointer (some ⟨b,0,none⟩),.agg r.cells.toArray,.int .i64 now] w fun e w'=>e=.returned (.bool (mF ps (r.dS hs) now))/\Fr aR w w':=by
 have gJ:=O (show mF ps (r.dS hs) now=(!(r.dS hs).needs||(r.dS hs).ng (je ps (r.dS hs) now))from rfl);generalize mF ps (r.dS hs) now=res at gJ ⊢;obtain⟨w1,oB⟩:∃w1,w1=w.alloc (.cells r.cells.toArray 37):=⟨_,rfl⟩;have df:Fr aR w w1:=by rw[oB];exact(ae _ _).alloc _
 have mf:w1.heap[w.heap.size]?=some (.cells r.cells.toArray 37 (0,0)):=by rw[oB];exact aB _ _
 have HN:=O (show∀U,Fr aR w1 U->Calls prog 61 #[.agg r.cells.toArray] U fun e w'=>e=.returned (.bool (r.dS hs).needs)/\Fr aR U w' from fun U hU=>RQ r hs U (bg hr (df.trans hU)) hz)
 have TS:=O (show∀U,Fr aR w1 U->Calls prog 63 #[.pointer (some ⟨b,0,none⟩),.agg r.cells.toArray,.int .i64 now] U fun e w'=>∃v',e=.returned v'/\OwnRows U.heap.size 155 12 w' v' ((je ps (r.dS hs) now).map ef.cells)/\Fr aR U w' from fun U hU=>aaS base U b v ps r hs now (h.dh (df.trans hU)) hlen)
 have xI:=O (show∀U,Fr aR w1 U->∀lv,qQ U lv (je ps (r.dS hs) now)->Calls prog 62 #[.agg r.cells.toArray,lv] U fun e w'=>e=.returned (.bool ((r.dS hs).ng (je ps (r.dS hs) now)))/\Fr aR U w' from fun U hU lv hlv=>yL r hs lv _ U (bg hr (df.trans hU)) hlv hz);obtain⟨ah,ch,gV⟩:=dQ hr;rw[ai]at gV
 have uS:r.cells=[.int .i64 r.part,.bool r.dm.aF,.string r.dm.host,.int .i64 r.dm.port,.bool r.o.aF,.string r.o.host,.int .i64 r.o.port,.string r.path,.string r.query,.string r.method,.slice ah hs.length ch,.bool r.fU,.string r.body]:=by unfold gq.cells;rw[gV]
 have HC:=O (show∀U,Fr aR w1 U->(U.cell? ⟨w.heap.size,0,none⟩=some (.int .i64 r.part)/\U.cell? ⟨w.heap.size,1,none⟩=some (.bool r.dm.aF)/\U.cell? ⟨w.heap.size,2,none⟩=some (.string r.dm.host)/\U.cell? ⟨w.heap.size,3,none⟩=some (.int .i64 r.dm.port)/\U.cell? ⟨w.heap.size,4,none⟩=some (.bool r.o.aF)/\U.cell? ⟨w.heap.size,5,none⟩=some (.string r.o.host)/\U.cell? ⟨w.heap.size,6,none⟩=some (.int .i64 r.o.port)/\U.cell? ⟨w.heap.size,7,none⟩=some (.string r.path)/\U.cell? ⟨w.heap.size,8,none⟩=some (.string r.query)/\U.cell? ⟨w.heap.size,9,none⟩=some (.string r.method)/\U.cell? ⟨w.heap.size,10,none⟩=some (.slice ah hs.length ch)/\U.cell? ⟨w.heap.size,11,none⟩=some (.bool r.fU)/\U.cell? ⟨w.heap.size,12,none⟩=some (.string r.body))from fun U hU=>by
  have j:=hU.keep mf id;rw[uS]at j;simp[World.cell?,j])
 rw[uS]at HN TS xI oB ⊢;have k_:=O df;have hhw:=oB;clear h hr hz df mf uS gV;cases hn:(r.dS hs).needs
 ·have HR:=O (show res=true by rw[gJ.o,hn];rfl);rw[hn]at HN;clear hn gJ TS xI hhw;go_enter func33,ntmps33;go_wp2_with fail
  rw[<-oB];clear oB
  refine wp_region_held_drew (S:=(fun U=>U.cell? ⟨w.heap.size,0,none⟩=some (.int .i64 r.part)/\U.cell? ⟨w.heap.size,1,none⟩=some (.bool r.dm.aF)/\U.cell? ⟨w.heap.size,2,none⟩=some (.string r.dm.host)/\U.cell? ⟨w.heap.size,3,none⟩=some (.int .i64 r.dm.port)/\U.cell? ⟨w.heap.size,4,none⟩=some (.bool r.o.aF)/\U.cell? ⟨w.heap.size,5,none⟩=some (.string r.o.host)/\U.cell? ⟨w.heap.size,6,none⟩=some (.int .i64 r.o.port)/\U.cell? ⟨w.heap.size,7,none⟩=some (.string r.path)/\U.cell? ⟨w.heap.size,8,none⟩=some (.string r.query)/\U.cell? ⟨w.heap.size,9,none⟩=some (.string r.method)/\U.cell? ⟨w.heap.size,10,none⟩=some (.slice ah hs.length ch)/\U.cell? ⟨w.heap.size,11,none⟩=some (.bool r.fU)/\U.cell? ⟨w.heap.size,12,none⟩=some (.string r.body))) af (HC.o _ (ae aR w1).drew) ?_
  intro zc;refine tkN 0 7 rfl ?_
  refine eL 1 rfl fun K hK=>?_;go_simp;refine(HN.o _ (ae aR w1).drew).mono ?_;rintro e v1⟨rfl,Ft⟩;have fO:=O (show Fr aR w1 v1 from((ae aR w1).drew).trans Ft);refine hK.out _ _ (HC.o _ fO.o) ?_;intro xz;clear hK zc Ft K
  try simp only[Act.put,sA,sB,sC]
  refine tkN 2 9 rfl ?_
  refine tkN 3 10 rfl ?_
  refine BG 4 11 rfl ?_
  try simp only[Act.put,sA,sB,sC]
  refine BG 5 12 rfl ?_
  try simp only[Act.put,sA,sB,sC]
  refine BG 6 13 rfl ?_
  try simp only[Act.put,sA,sB,sC]
  refine BG 7 14 rfl ?_
  try simp only[Act.put,sA,sB,sC]
  refine BG 8 15 rfl ?_
  try simp only[Act.put,sA,sB,sC]
  refine BG 9 16 rfl ?_
  try simp only[Act.put,sA,sB,sC]
  refine tkN 10 17 rfl ?_
  refine tkN 11 6 rfl ?_
  refine wpAnyH_done af ?_ _;go_wp2;go_ret;exact⟨by rw[HR.o];rfl,k_.o.trans fO.o⟩
 ·have HR:=O (show res=(r.dS hs).ng (je ps (r.dS hs) now)by rw[gJ.o,hn];rfl);rw[hn]at HN;generalize (r.dS hs).ng (je ps (r.dS hs) now)=cv at *
  generalize je ps (r.dS hs) now=fs at *
  clear hn gJ hhw;go_enter func33,ntmps33;go_wp2_with fail
  rw[<-oB];clear oB
  go_region_held3 (fun U=>Fr aR w1 U/\U.cell? ⟨w.heap.size,0,none⟩=some (.int .i64 r.part)/\U.cell? ⟨w.heap.size,1,none⟩=some (.bool r.dm.aF)/\U.cell? ⟨w.heap.size,2,none⟩=some (.string r.dm.host)/\U.cell? ⟨w.heap.size,3,none⟩=some (.int .i64 r.dm.port)/\U.cell? ⟨w.heap.size,4,none⟩=some (.bool r.o.aF)/\U.cell? ⟨w.heap.size,5,none⟩=some (.string r.o.host)/\U.cell? ⟨w.heap.size,6,none⟩=some (.int .i64 r.o.port)/\U.cell? ⟨w.heap.size,7,none⟩=some (.string r.path)/\U.cell? ⟨w.heap.size,8,none⟩=some (.string r.query)/\U.cell? ⟨w.heap.size,9,none⟩=some (.string r.method)/\U.cell? ⟨w.heap.size,10,none⟩=some (.slice ah hs.length ch)/\U.cell? ⟨w.heap.size,11,none⟩=some (.bool r.fU)/\U.cell? ⟨w.heap.size,12,none⟩=some (.string r.body)) ((refine(fun hU=>⟨hU,HC.o _ hU⟩) ?_;repeat(first|exact ae _ _|assumption|apply bz|apply aA|refine bE ?_ jA)))
   ((first
    |(go_at_call 61;refine(HN.o _ (by repeat(first|exact ae _ _|assumption|apply aA|apply bz|refine bE ?_ jA))).mono ?_;rintro e u1 ⟨rfl,uA⟩)
    |(go_at_call 63;refine(TS.o _ (by repeat(first|exact ae _ _|assumption|apply aA|apply bz|refine bE ?_ jA))).mono ?_;rintro e u2 ⟨fv,rfl,Lr,nv⟩)
    |(go_at_call 62;refine(xI.o _ (by repeat(first|exact ae _ _|assumption|apply aA|apply bz|refine bE ?_ jA)) _ (bg Lr.at (by repeat(first|exact ae _ _|assumption|apply aA|apply bz|refine bE ?_ jA)))).mono ?_;rintro e u3 ⟨rfl,zV⟩)))
  have fO:=O (show Fr aR w1 u3 from by repeat(first|exact ae _ _|assumption|apply aA|apply bz|refine bE ?_ jA));clear uA nv zV;go_wp2;go_ret;exact⟨by rw[HR.o];rfl,k_.o.trans fO.o⟩
def G7(a:fK bD):Prop:=a.aK.size<=3000/\a.bq.size<=3000/\a.cj.size<=3000/\a.dom.length<=3001
def VV(g:aP bD):Prop:=G7 g.a/\g.user.size<=5000/\g.pass.size<=5000
theorem I8{ps:List jy}(h:xt M ps){n v:Bs}(e:kr ps n=some v):v.length<=M:=by
 unfold kr at e;cases hf:ps.find? (fun p=>dG p.1 n)with
 |none=>rw[hf]at e;cases e
 |some p =>
  rw[hf]at e;obtain rfl:p.2=v:=by simpa using e
  exact(h p (List.mem_of_find?_eq_some hf)).2
theorem Qt{ps:List jy}(h:xt M ps)(n:Bs):((kr ps n).getD []).length<=M:=by
 cases e:kr ps n with
 |none=>exact aI _
 |some v=>exact I8 h e
theorem Cg(c:UInt8):∀l:Bs,(dZ c l).length<=l.length+1
 |[]=>by simp[dZ]
 |x :: l=>by
  have ih:=Cg c l;by_cases hx:x=c
  ·subst hx;rw[rF];simp;exact ih
  ·cases e:dZ c l with
   |nil=>exact absurd e (xk c l)
   |cons p ps =>
    rw[ob hx e];rw[e]at ih;simp at ih ⊢; omega
theorem R0(d:Bs):(Ih d).length<=d.length+1:=by
 unfold Ih;rw[ai];exact aD (bQ _ _) (Cg 32 d)
theorem R2{x:nu}{a:fK bD}(hx:x.Le 3000)(h:nd x=some a):G7 a:=by
 have hp:=hx.zz;unfold nd at h;split at h
 ·cases h
 rename_i aK hr;have h1:=I8 hp hr;split at h
 ·cases h;exact⟨h1,aI _,aI _,aI _⟩
 split at h
 ·cases h
 split at h
 ·cases h
 split at h
 ·cases h
 rename_i bq hn;have h2:=I8 hp hn;split at h
 ·cases h
 ·cases h;refine⟨h1,h2,Qt hp mi,?_⟩;show((Ih ((kr x.params qW).getD [])).map bA).length<=3001;rw[ai];have:=R0 ((kr x.params qW).getD []);have:=Qt hp qW;omega
theorem VW:G7 PL:=⟨aI _,aI _,aI _,aI _⟩
theorem VX(h:∀x∈l,x.Le 3000):G7 (jm l):=by
 unfold jm;rcases Qr l PL with e|⟨x,hx,e⟩
 ·rw[e];exact VW
 ·exact R2 (h x hx) e
theorem Qu{r:Bs}(h:mC r=.ok l):G7 (jm l):=by
 refine VX (fun x hx=>?_);have h1:=Ce h x hx;have h2:=Cf h;exact⟨aD h1.scheme h2,aD h1.token h2,fun p hp=>⟨aD (h1.zz p hp).1 h2,aD (h1.zz p hp).2 h2⟩⟩
theorem LN{g x:aP bD}(h:x∈vP gs g):x∈gs\/x=g:=by
 unfold vP at h;have h:=ez h;rcases bK.1 h with h|h
 ·exact Or.inl (fb.1 h).1
 ·exact Or.inr (cE.1 h)
theorem LO{m x:bI bD}(h:x∈Ac ws m):x∈ws\/x=m:=by
 unfold Ac at h;have h:=ez h;rcases bK.1 h with h|h
 ·exact Or.inl ((rB _ _ _).subset h)
 ·exact Or.inr (cE.1 h)
theorem Br{o:gz}{proxy:Bool}:∀ {ws:List (bI bD)} {g:bI bD},(mj o proxy ws).2=some g->g∈ws
 |[],_,h=>by cases h
 |x :: l,g,h=>by
  rw[mj]at h;cases hx:Bm o proxy x
  ·rw[hx]at h;simp only[cG,eU]at h;exact bN _ (Br h)
  ·rw[hx]at h;simp only[eb]at h;cases h;exact cQ
theorem LP{o:gz}{proxy:Bool}{path:aj}{P:aP bD->Prop}(hP:∀g,P g->P g.used)(h:∀x∈gs,P x) :
  (∀x∈(vQ gs o proxy path).1,P x)/\∀g,(vQ gs o proxy path).2=.ok g->P g:=by
 unfold vQ;split
 ·split
  ·rename_i g hg;have hl:∀x∈gs.take (uh gs o proxy path).toNat++gs.drop ((uh gs o proxy path).toNat+1),P x:=fun x hx=>by
    rcases bK.1 hx with hx|hx
    ·exact h x (dX hx)
    ·exact h x (ez hx)
   have Yn:P g.used:=hP g (h g (bT hg));simp only;split
   ·exact⟨hl,fun g h=>by cases h⟩
   ·refine⟨fun x hx=>?_,fun g h=>by cases h;exact Yn⟩;rcases bK.1 hx with hx|hx
    ·exact hl x hx
    ·rw[cE]at hx;rw[hx];exact Yn
  ·exact⟨h,fun g h=>by cases h⟩
 ·exact⟨h,fun g h=>by cases h⟩
structure rY (p:dM):Prop where
 bF:∀g∈p.bF,VV g
 waits:∀x∈p.waits,G7 x.a
theorem rY.no:rY yM:=⟨fun _ h=>(by cases h),fun _ h=>(by cases h)⟩
theorem rY.sF{p:dM}(h:rY p)(now:Int)(o:iz)(hu:o.user.size<=5000)(hp:o.pass.size<=5000):rY (sF p now o).1:=by
 obtain⟨hg,hw⟩:=h;unfold Go.Proofs.YtnckmcnffadjoaaGreatDoor.sF;by_cases h1:o.what=1
 ·rw[az h1];have hU:=(LP (gs:=p.bF) (o:=o.o) (proxy:=o.proxy) (path:=o.path) (P:=VV) (fun _ h=>h) hg).1;unfold iw;split
  ·rename_i gs e he;rw[he]at hU;exact⟨hU,hw⟩
  ·rename_i gs g he;rw[he]at hU;split
   ·exact⟨fun x hx=>hU x (fb.1 hx).1,hw⟩
   ·exact⟨hU,hw⟩
 rw[aq h1];by_cases h2:o.what=2
 ·rw[az h2];unfold fJ;split
  ·exact⟨hg,hw⟩
  ·rename_i l hl;have hb:=Qu hl;split
   ·split
    ·rename_i g hs;refine⟨fun x hx=>?_,hw⟩;rcases LN hx with hx|rfl
     ·exact hg x hx
     ·unfold Es at hs;split at hs
      ·rename_i g' Yn;split at hs
       ·cases hs;have:=hg g' (List.mem_of_find?_eq_some Yn);exact⟨hb,this.2⟩
       ·cases hs
      ·cases hs
    ·refine⟨fun x hx=>hg x (fb.1 hx).1,fun x hx=>?_⟩;rcases LO hx with hx|rfl
     ·exact hw x hx
     ·exact hb
   ·exact⟨hg,hw⟩
 rw[aq h2];by_cases h3:o.what=3
 ·rw[az h3];have hs:=rB o.o o.proxy p.waits;unfold fV;split
  ·rename_i ws e;rw[e]at hs;exact⟨hg,fun x hx=>hw x (hs.subset hx)⟩
  ·rename_i ws x e;have hx:=Br (o:=o.o) (proxy:=o.proxy) (ws:=p.waits) (g:=x) (by rw[e]);rw[e]at hs;refine⟨fun y hy=>?_,fun x hx=>hw x (hs.subset hx)⟩;rcases LN hy with hy|rfl
   ·exact hg y hy
   ·exact⟨hw x hx,hu,hp⟩
 rw[aq h3];by_cases h4:o.what=4
 ·rw[az h4];exact⟨hg,hw⟩
 rw[aq h4];by_cases h5:o.what=5
 ·rw[az h5];unfold gP;split
  ·exact⟨hg,hw⟩
  ·split
   ·exact⟨hg,hw⟩
   ·exact⟨hg,hw⟩
 rw[aq h5];by_cases h6:o.what=6
 ·rw[az h6];exact⟨hg,hw⟩
 rw[aq h6];by_cases h7:o.what=7
 ·rw[az h7];unfold jR;split
  ·exact⟨hg,hw⟩
  ·exact⟨hg,hw⟩
 rw[aq h7];unfold pA;split
 ·exact rY.no
 ·have UG:rY (uT p o.o):=⟨fun x hx=>hg x (fb.1 hx).1,fun x hx=>hw x (fb.1 hx).1⟩;split
  ·exact⟨UG.bF,UG.waits⟩
  ·exact UG
def Ew(w:dx):Prop:=∀k,rY (w.part k)
theorem Ew.new:Ew yN:=fun _=>rY.no
theorem Ew.iC{w:dx}(h:Ew w)(o:iz)(hu:o.user.size<=5000)(hp:o.pass.size<=5000):Ew (iC w o).1:=by
 cases hr:o.right
 ·rw[th hr];exact h
 ·by_cases hw:o.what=10
  ·rw[rX hr hw];split
   ·exact h
   ·exact h
  ·rw[qt hr hw];intro k;by_cases hk:k=o.part.toNat
   ·subst hk;rw[kR];exact(h _).sF _ _ hu hp
   ·rw[mW _ _ hk];exact h k
theorem lA(o:jG)(hs:List gZ)(w:World)(h:gH w o hs) :
  Calls prog 28 #[.agg o.cells.toArray] w fun e w'=>e=.returned (.bool (o.dS hs).right)/\Fr aR w w':=by
 have gJ:=O (show(o.dS hs).right=(decide (1<=o.what)&&(decide (o.what<=10)&&(rZ o.aL.part o.aL.method hs&&(nW o.aL.dm&&(nW o.aL.o&&(decide (o.aL.path.size<=200)&&(o.aL.path.data.toList.head?==some 47&&decide (o.text.size<=3000))))))))from rfl);generalize (o.dS hs).right=res at gJ ⊢;obtain⟨ah,ch,gV⟩:=dQ h.eo;rw[ai]at gV
 have CU:o.cells=[.int .i64 o.what,.int .i64 o.aL.part,.bool o.aL.dm.aF,.string o.aL.dm.host,.int .i64 o.aL.dm.port,.bool o.aL.o.aF,.string o.aL.o.host,.int .i64 o.aL.o.port,.string o.aL.path,.string o.aL.query,.string o.aL.method,.slice ah hs.length ch,.bool o.aL.fU,.string o.aL.body,.bool o.proxy,.string o.text,.string o.user,.string o.pass,.string o.bP,.int .i64 o.cert,.bool o.all,.int .i64 o.n]:=by unfold jG.cells gq.cells;rw[gV];rfl
 have uS:o.aL.cells=[.int .i64 o.aL.part,.bool o.aL.dm.aF,.string o.aL.dm.host,.int .i64 o.aL.dm.port,.bool o.aL.o.aF,.string o.aL.o.host,.int .i64 o.aL.o.port,.string o.aL.path,.string o.aL.query,.string o.aL.method,.slice ah hs.length ch,.bool o.aL.fU,.string o.aL.body]:=by unfold gq.cells;rw[gV]
 obtain⟨w2,eB⟩:∃w2,w2=(w.alloc (.cells #[.int .i64 o.what,.int .i64 o.aL.part,.bool o.aL.dm.aF,.string o.aL.dm.host,.int .i64 o.aL.dm.port,.bool o.aL.o.aF,.string o.aL.o.host,.int .i64 o.aL.o.port,.string o.aL.path,.string o.aL.query,.string o.aL.method,.slice ah hs.length ch,.bool o.aL.fU,.string o.aL.body,.bool o.proxy,.string o.text,.string o.user,.string o.pass,.string o.bP,.int .i64 o.cert,.bool o.all,.int .i64 o.n] 41)).alloc (.cells #[.int .i64 o.aL.part,.bool o.aL.dm.aF,.string o.aL.dm.host,.int .i64 o.aL.dm.port,.bool o.aL.o.aF,.string o.aL.o.host,.int .i64 o.aL.o.port,.string o.aL.path,.string o.aL.query,.string o.aL.method,.slice ah hs.length ch,.bool o.aL.fU,.string o.aL.body] 37):=⟨_,rfl⟩
 have dy:Fr aR w w2:=by rw[eB];exact((ae aR w).alloc _).alloc _
 have k1:w2.heap[w.heap.size]?=some (.cells #[.int .i64 o.what,.int .i64 o.aL.part,.bool o.aL.dm.aF,.string o.aL.dm.host,.int .i64 o.aL.dm.port,.bool o.aL.o.aF,.string o.aL.o.host,.int .i64 o.aL.o.port,.string o.aL.path,.string o.aL.query,.string o.aL.method,.slice ah hs.length ch,.bool o.aL.fU,.string o.aL.body,.bool o.proxy,.string o.text,.string o.user,.string o.pass,.string o.bP,.int .i64 o.cert,.bool o.all,.int .i64 o.n] 41 (0,0)):=by rw[eB];exact((ae aR _).alloc _).keep (aB _ _) id
 have k2:w2.heap[w.heap.size+1]?=some (.cells #[.int .i64 o.aL.part,.bool o.aL.dm.aF,.string o.aL.dm.host,.int .i64 o.aL.dm.port,.bool o.aL.o.aF,.string o.aL.o.host,.int .i64 o.aL.o.port,.string o.aL.path,.string o.aL.query,.string o.aL.method,.slice ah hs.length ch,.bool o.aL.fU,.string o.aL.body] 37 (0,0)):=by
  have h:=aB (w.alloc (.cells #[.int .i64 o.what,.int .i64 o.aL.part,.bool o.aL.dm.aF,.string o.aL.dm.host,.int .i64 o.aL.dm.port,.bool o.aL.o.aF,.string o.aL.o.host,.int .i64 o.aL.o.port,.string o.aL.path,.string o.aL.query,.string o.aL.method,.slice ah hs.length ch,.bool o.aL.fU,.string o.aL.body,.bool o.proxy,.string o.text,.string o.user,.string o.pass,.string o.bP,.int .i64 o.cert,.bool o.all,.int .i64 o.n] 41)) (.cells #[.int .i64 o.aL.part,.bool o.aL.dm.aF,.string o.aL.dm.host,.int .i64 o.aL.dm.port,.bool o.aL.o.aF,.string o.aL.o.host,.int .i64 o.aL.o.port,.string o.aL.path,.string o.aL.query,.string o.aL.method,.slice ah hs.length ch,.bool o.aL.fU,.string o.aL.body] 37)
  rw[bM]at h;rw[eB];exact h
 have HC:=O (show∀U,Fr aR w2 U->U.cell? ⟨w.heap.size,0,none⟩=some (.int .i64 o.what)/\U.cell? ⟨w.heap.size,15,none⟩=some (.string o.text)/\U.cell? ⟨w.heap.size+1,0,none⟩=some (.int .i64 o.aL.part)/\U.cell? ⟨w.heap.size+1,1,none⟩=some (.bool o.aL.dm.aF)/\U.cell? ⟨w.heap.size+1,2,none⟩=some (.string o.aL.dm.host)/\U.cell? ⟨w.heap.size+1,3,none⟩=some (.int .i64 o.aL.dm.port)/\U.cell? ⟨w.heap.size+1,4,none⟩=some (.bool o.aL.o.aF)/\U.cell? ⟨w.heap.size+1,5,none⟩=some (.string o.aL.o.host)/\U.cell? ⟨w.heap.size+1,6,none⟩=some (.int .i64 o.aL.o.port)/\U.cell? ⟨w.heap.size+1,7,none⟩=some (.string o.aL.path)/\U.cell? ⟨w.heap.size+1,8,none⟩=some (.string o.aL.query)/\U.cell? ⟨w.heap.size+1,9,none⟩=some (.string o.aL.method)/\U.cell? ⟨w.heap.size+1,10,none⟩=some (.slice ah hs.length ch)/\U.cell? ⟨w.heap.size+1,11,none⟩=some (.bool o.aL.fU)/\U.cell? ⟨w.heap.size+1,12,none⟩=some (.string o.aL.body)from fun U hU=>by
  have j1:=hU.keep k1 id;have j2:=hU.keep k2 id;simp[World.cell?,j1,j2])
 have C1:=O (show∀U,Fr aR w2 U->Calls prog 45 #[.agg #[.int .i64 o.aL.part,.bool o.aL.dm.aF,.string o.aL.dm.host,.int .i64 o.aL.dm.port,.bool o.aL.o.aF,.string o.aL.o.host,.int .i64 o.aL.o.port,.string o.aL.path,.string o.aL.query,.string o.aL.method,.slice ah hs.length ch,.bool o.aL.fU,.string o.aL.body]] U fun e w'=>e=.returned (.bool (rZ o.aL.part o.aL.method hs))/\Fr aR U w' from fun U hU=>by
  have:=Oj o.aL hs U (bg h.eo (dy.trans hU)) h.aL;rw[uS]at this;exact this)
 have C2:=O (show∀U,Calls prog 46 #[.agg #[.bool o.aL.dm.aF,.string o.aL.dm.host,.int .i64 o.aL.dm.port]] U fun e w'=>e=.returned (.bool (nW o.aL.dm))/\Fr aR U w' from fun U=>GG o.aL.dm U h.dm);have C3:=O (show∀U,Calls prog 46 #[.agg #[.bool o.aL.o.aF,.string o.aL.o.host,.int .i64 o.aL.o.port]] U fun e w'=>e=.returned (.bool (nW o.aL.o))/\Fr aR U w' from fun U=>GG o.aL.o U h.ori);have hpz:=h.path
 have X8:=h.text;have nJ:=O eB;have fO:=O dy;rw[CU];clear h dy k1 k2 CU uS gV;obtain⟨a0,jr,b0,b1,b2,b3,b4,b5,b6,b7,b8,b9,b10,b11,b12⟩:=HC.o w2 (ae _ _);rw[eB]at a0 jr b0 b1 b2 b3 b4 b5 b6 b7 b8 b9 b10 b11 b12;clear eB;by_cases h1:o.what>=1
 rotate_left
 ·have HR:=O (show res=false by rw[gJ.o,bh (show¬1<=o.what from ab)];rfl);clear gJ;go_enter func28,ntmps28;go_wp2;go_ret;exact⟨by rw[HR.o];rfl,by rw[<-nJ.o];exact fO.o⟩
 by_cases h2:o.what<=10
 rotate_left
 ·have HR:=O (show res=false by rw[gJ.o,bh h2,kB,Bool.and_false]);clear gJ;go_enter func28,ntmps28;go_wp2;go_ret;exact⟨by rw[HR.o];rfl,by rw[<-nJ.o];exact fO.o⟩
 have Ob:=O (show res=(rZ o.aL.part o.aL.method hs&&(nW o.aL.dm&&(nW o.aL.o&&(decide (o.aL.path.size<=200)&&(o.aL.path.data.toList.head?==some 47&&decide (o.text.size<=3000))))))by rw[gJ.o,bf h2,bf (show 1<=o.what from ab)];rfl);clear gJ;go_enter func28,ntmps28;go_wp2_with fail
 rw[<-nJ.o];refine(C1.o w2 (ae _ _)).mono ?_;rintro e u1⟨rfl,uA⟩;cases e1:rZ o.aL.part o.aL.method hs
 ·have HR:=O (show res=false by rw[Ob.o,e1];rfl);clear Ob e1;go_wp2;go_ret;exact⟨by rw[HR.o];rfl,fO.o.trans uA⟩
 have ph:=O (show res=(nW o.aL.dm&&(nW o.aL.o&&(decide (o.aL.path.size<=200)&&(o.aL.path.data.toList.head?==some 47&&decide (o.text.size<=3000)))))by rw[Ob.o,e1];rfl);have I9:=O uA;clear Ob e1 uA a0 jr b0 b1 b2 b3 b4 b5 b6 b7 b8 b9 b10 b11 b12;obtain⟨a0,jr,b0,b1,b2,b3,b4,b5,b6,b7,b8,b9,b10,b11,b12⟩:=HC.o u1 I9.o;go_wp2_with fail
 refine(C2.o u1).mono ?_;rintro e u2⟨rfl,nv⟩;cases e1:nW o.aL.dm
 ·have HR:=O (show res=false by rw[ph.o,e1];rfl);clear ph e1;go_wp2;go_ret;exact⟨by rw[HR.o];rfl,fO.o.trans (I9.o.trans nv)⟩
 have PX:=O (show res=(nW o.aL.o&&(decide (o.aL.path.size<=200)&&(o.aL.path.data.toList.head?==some 47&&decide (o.text.size<=3000))))by rw[ph.o,e1];rfl);have tW:=O (I9.o.trans nv);clear ph e1 nv a0 jr b0 b1 b2 b3 b4 b5 b6 b7 b8 b9 b10 b11 b12;obtain⟨a0,jr,b0,b1,b2,b3,b4,b5,b6,b7,b8,b9,b10,b11,b12⟩:=HC.o u2 tW.o;go_wp2_with fail
 refine(C3.o u2).mono ?_;rintro e u3⟨rfl,zV⟩;cases e1:nW o.aL.o
 ·have HR:=O (show res=false by rw[PX.o,e1];rfl);clear PX e1;go_wp2;go_ret;exact⟨by rw[HR.o];rfl,fO.o.trans (tW.o.trans zV)⟩
 have VZ:=O (show res=(decide (o.aL.path.size<=200)&&(o.aL.path.data.toList.head?==some 47&&decide (o.text.size<=3000)))by rw[PX.o,e1];rfl);have Yo:=O (tW.o.trans zV);clear PX e1 zV a0 jr b0 b1 b2 b3 b4 b5 b6 b7 b8 b9 b10 b11 b12;obtain⟨a0,jr,b0,b1,b2,b3,b4,b5,b6,b7,b8,b9,b10,b11,b12⟩:=HC.o u3 Yo.o;have HFZ:=O (fO.o.trans Yo.o);by_cases h3:(o.aL.path.size:Int)<=200
 rotate_left
 ·have HR:=O (show res=false by rw[VZ.o,bh (show¬o.aL.path.size<=200 from ab)];rfl);clear VZ;go_wp2;go_ret;exact⟨by rw[HR.o];rfl,HFZ.o⟩
 have TT:=O (show res=(o.aL.path.data.toList.head?==some 47&&decide (o.text.size<=3000))by rw[VZ.o,bf (show o.aL.path.size<=200 from ab)];rfl);clear VZ;by_cases h4:(o.aL.path.size:Int)>0
 rotate_left
 ·have HR:=O (show res=false by
   have e:o.aL.path.data.toList=[]:=cg (by have:o.aL.path.data.toList.length=o.aL.path.size:=by simp
                                           omega)
   rw[TT.o,e];rfl)
  clear TT;go_wp2;go_ret;exact⟨by rw[HR.o];rfl,HFZ.o⟩
 have hp0:0<o.aL.path.size:=ab;have ai7:=byte_at o.aL.path 0 hp0;have hhd:o.aL.path.data.toList.head?=some o.aL.path[0]:=by rw[List.head?_eq_getElem?];exact ai7
 have Yp:=O (show res=(decide (o.aL.path[0]=47)&&decide (o.text.size<=3000))by
  rw[TT.o,hhd];by_cases q:o.aL.path[0]=47
  ·rw[q];rfl
  ·rw[bh q,aN.2 (fun e=>q (ka e))])
 clear TT hhd ai7;by_cases q:o.aL.path[0]=47
 rotate_left
 ·have HR:=O (show res=false by rw[Yp.o,bh q];rfl);have q2:((o.aL.path[0].toNat:Int)==47)=false:=by
   rw[aN];intro e;exact q (iX.1 (by show o.aL.path[0].toNat=47;omega))
  clear Yp;go_wp2;go_ret;exact⟨by rw[HR.o];rfl,HFZ.o⟩
 have HR:=O (show res=decide (o.text.size<=3000)by rw[Yp.o,bf q];rfl);have q2:((o.aL.path[0].toNat:Int)==47)=true:=by rw[q];rfl
 clear Yp q;go_wp2;go_ret;exact⟨by show Ending.returned (.bool (decide ((o.text.size:Int)<=3000)))=_;exact fx (by rw[HR.o];exact decide_eq_decide.2 ⟨fun h=>ab,fun h=>ab⟩),HFZ.o⟩
def u_(c:Nat)(P Q:dM):Prop:=(c.testBit 0=true->P.bF=Q.bF/\P.waits=Q.waits)/\(c.testBit 1=true->P.book=Q.book)/\(c.testBit 2=true->P.dE=Q.dE)
def BB(c:Nat)(P Q:dM):Prop:=(c.testBit 0=false->P.bF=Q.bF/\P.waits=Q.waits)/\(c.testBit 1=false->P.book=Q.book)/\(c.testBit 2=false->P.dE=Q.dE)
def iR(c:Nat)(P F:dM):dM:=⟨if c.testBit 0 then F.bF else P.bF,if c.testBit 0 then F.waits else P.waits,if c.testBit 1 then F.book else P.book,if c.testBit 2 then F.dE else P.dE⟩
def j8(w f:dx)(part:Int)(c:Nat):dx :=
 if 0<=part/\part<4 then{part:=fun i=>if i=part.toNat then iR c (w.part i) (f.part i)else w.part i,now:=if c.testBit 3 then f.now else w.now}else w
theorem u_.refl(c:Nat)(P:dM):u_ c P P:=⟨fun _=>⟨rfl,rfl⟩,fun _=>rfl,fun _=>rfl⟩
theorem BB.refl(c:Nat)(P:dM):BB c P P:=⟨fun _=>⟨rfl,rfl⟩,fun _=>rfl,fun _=>rfl⟩
theorem yR(h:BB c F P):iR c P F=F:=by
 obtain⟨g,w,b,s⟩:=F;obtain⟨h0,h1,h2⟩:=h;unfold iR;simp only[dM.mk.injEq];refine⟨?_,?_,?_,?_⟩
 ·split
  ·rfl
  ·rename_i h;exact(h0 (by simpa using h)).1.symm
 ·split
  ·rfl
  ·rename_i h;exact(h0 (by simpa using h)).2.symm
 ·split
  ·rfl
  ·rename_i h;exact(h1 (by simpa using h)).symm
 ·split
  ·rfl
  ·rename_i h;exact(h2 (by simpa using h)).symm
theorem Ma{Q G:dM}(h:u_ c F G)(hk:BB c P Q):iR c P F=iR c Q G:=by
 obtain⟨h0,h1,h2⟩:=h;obtain⟨k0,k1,k2⟩:=hk;unfold iR;simp only[dM.mk.injEq];refine⟨?_,?_,?_,?_⟩
 ·split
  ·rename_i h;exact(h0 h).1
  ·rename_i h;exact(k0 (by simpa using h)).1
 ·split
  ·rename_i h;exact(h0 h).2
  ·rename_i h;exact(k0 (by simpa using h)).2
 ·split
  ·rename_i h;exact h1 h
  ·rename_i h;exact k1 (by simpa using h)
 ·split
  ·rename_i h;exact h2 h
  ·rename_i h;exact k2 (by simpa using h)
abbrev lX := @BB.refl
open Go.ChangeShapes Go.WideShapes Go.ChangeAt Go.RowKit Go.Deep
variable {H : Type} {enc : TypeId × Value → H} {W : World}
structure vE (w:World) (o:jG) (hs:List gZ):Prop where
 aL:XF w o.aL hs
 text:o.text.size<=140737488351232
 user:o.user.size<=140737488351232
 pass:o.pass.size<=140737488351232
 bP:o.bP.size<=140737488351232
 what:(Lit.int .i64 o.what).wf=true
 cert:(Lit.int .i64 o.cert).wf=true
 n:(Lit.int .i64 o.n).wf=true
abbrev JA(w:World)(v:Value)(os:List (jG×List gZ)):Prop:=dV 22 w v (os.map fun o=>o.1.cells)/\os.length<=140737488355328/\∀o∈os,vE w o.1 o.2
theorem MJ:prog.cellsOf 41=22:=af
theorem AH:prog.cellsOf 39=2:=af
theorem akU{α:Type}{l:List α}(h:l.length=22):∃a0 a1 a2 a3 a4 a5 a6 a7 a8 a9 jI jJ a12 jH jK jr jY jZ j5 kf a20 a21,l=[a0,a1,a2,a3,a4,a5,a6,a7,a8,a9,jI,jJ,a12,jH,jK,jr,jY,jZ,j5,kf,a20,a21]:=by
 match l,h with
 |[a0,a1,a2,a3,a4,a5,a6,a7,a8,a9,jI,jJ,a12,jH,jK,jr,jY,jZ,j5,kf,a20,a21],_=>exact⟨a0,a1,a2,a3,a4,a5,a6,a7,a8,a9,jI,jJ,a12,jH,jK,jr,jY,jZ,j5,kf,a20,a21,rfl⟩
theorem Pn{x:DataW H×List MemPlace}(h:DataW.trod enc prog W 0 (fun _=>true) true fuel 39 cs=some x) :
  ∃u p:aj,cs=[.string u,.string p]/\(pC prog 39 x.1->u.size<=reachBytes/\p.size<=reachBytes):=by
 obtain⟨hl,n,hf⟩:=n9 underlying39 h;rw[AH]at hl;obtain⟨c0,c1,rfl⟩:=akR hl;obtain⟨y0,h0,l0⟩:=hf 0 9 0 _ rfl iW;obtain⟨y1,h1,l1⟩:=hf 1 9 1 _ rfl iW;simp only[List.drop,List.take]at h0 h1;obtain⟨u,eu,wu⟩:=fl underlying9 h0;obtain⟨q,eq,wq⟩:=fl underlying9 h1;simp only[fE,iL]at eu eq;subst eu eq;exact⟨u,q,rfl,fun hL=>⟨wu (l0 hL),wq (l1 hL)⟩⟩
theorem abi{x:DataW H×List MemPlace}(h:DataW.trod enc prog W 0 (fun _=>true) true fuel 41 cs=some x) :
  ∃b:jG×List gZ,cs=b.1.cells/\cs.length=22/\(∀u∈cs,u.oneCell'=true)/\(pC prog 41 x.1->vE W b.1 b.2):=by
 obtain⟨hl,n,hf⟩:=n9 underlying41 h;rw[MJ]at hl;obtain⟨c0,c1,c2,c3,c4,c5,c6,c7,c8,c9,G1,TP,c12,c13,c14,c15,c16,c17,c18,c19,c20,c21,rfl⟩:=akU hl;obtain⟨y0,h0,l0⟩:=hf 0 3 0 _ rfl pV;obtain⟨y1,h1,l1⟩:=hf 1 37 1 _ rfl Hy;obtain⟨y2,h2,l2⟩:=hf 2 4 14 _ rfl vh;obtain⟨y3,h3,l3⟩:=hf 3 9 15 _ rfl iW;obtain⟨y4,h4,l4⟩:=hf 4 39 16 _ rfl AH;obtain⟨y5,h5,l5⟩:=hf 5 9 18 _ rfl iW
 obtain⟨y6,h6,l6⟩:=hf 6 3 19 _ rfl pV;obtain⟨y7,h7,l7⟩:=hf 7 4 20 _ rfl vh;obtain⟨y8,h8,l8⟩:=hf 8 3 21 _ rfl pV;simp only[List.drop,List.take]at h0 h1 h2 h3 h4 h5 h6 h7 h8;obtain⟨b0,e0,w0⟩:=kI underlying3 h0;obtain⟨r,⟨e1,_⟩,_,o1,s1⟩:=XG h1;obtain⟨b2,e2⟩:=nN underlying4 h2;obtain⟨b3,e3,w3⟩:=fl underlying9 h3;obtain⟨u4,p4,e4,s4⟩:=Pn h4;obtain⟨b5,e5,w5⟩:=fl underlying9 h5
 obtain⟨b6,e6,w6⟩:=kI underlying3 h6;obtain⟨b7,e7⟩:=nN underlying4 h7;obtain⟨b8,e8,w8⟩:=kI underlying3 h8;rw[e1]at o1;unfold gq.cells at e1;simp only[fE,iL]at e0 e1 e2 e3 e4 e5 e6 e7 e8;obtain⟨rfl,rfl,rfl,rfl,rfl,rfl,rfl,rfl,rfl,rfl,rfl,rfl,rfl⟩:=e1;obtain⟨rfl,rfl⟩:=e4;subst e0 e2 e3 e5 e6 e7 e8;have dY:∀u∈(⟨b0,r.1,b2,b3,u4,p4,b5,b6,b7,b8⟩:jG).cells,u.oneCell'=true:=by
  intro u hu;unfold jG.cells at hu;rcases bB.1 hu with rfl|hu
  ·rfl
  rcases bK.1 hu with hu|hu
  ·exact o1 u hu
  ·simp only[bB,cq,dU]at hu;rcases hu with rfl|rfl|rfl|rfl|rfl|rfl|rfl|rfl<;>rfl
 refine⟨(⟨b0,r.1,b2,b3,u4,p4,b5,b6,b7,b8⟩,r.2),rfl,rfl,dY,fun hL=>?_⟩;have q4:=s4 (l4 hL);exact⟨s1 (l1 hL),w3 (l3 hL),q4.1,q4.2,w5 (l5 hL),w0,w6,w8⟩
instance:Inhabited (jG×List gZ):=⟨(⟨0,⟨0,⟨false,.empty,0⟩,⟨false,.empty,0⟩,.empty,.empty,.empty,.nilIface,false,.empty⟩,false,.empty,.empty,.empty,.empty,0,false,0⟩,[])⟩
theorem E'(base:Nat)(w:World)(B:Nat)(pv:Nat->cU)(x:dx)(h:cz base w B pv x) :
  Calls prog 24 #[.pointer (some ⟨B,0,none⟩)] w fun e w'=>e=.returned (.int .i64 x.now)/\w'=w:=by
 have c:w.cell? ⟨B,12,none⟩=some (.int .i64 x.now):=by
  simp only[World.cell?,h.eI];rfl
 clear h;go_enter func24,ntmps24;go_wp2;go_ret;exact⟨rfl,rfl⟩
def mH(p:dM):Prop:=∀x∈p.waits,x.path.size<=5000
theorem mH.no:mH yM:=fun _ h=>by cases h
theorem mH.same(h:mH p)(e:q.waits=p.waits):mH q:=by unfold mH;rw[e];exact h
theorem mH.sub(h:mH p)(e:∀x∈q.waits,x∈p.waits):mH q:=fun x hx=>h x (e x hx)
theorem mH.sF{p:dM}(h:mH p)(now:Int)(o:iz)(hp:o.path.size<=5000):mH (sF p now o).1:=by
 unfold Go.Proofs.YtnckmcnffadjoaaGreatDoor.sF;by_cases h1:o.what=1
 ·rw[az h1];unfold iw;split
  ·exact h.same rfl
  ·split
   ·exact h.same rfl
   ·exact h.same rfl
 rw[aq h1];by_cases h2:o.what=2
 ·rw[az h2];unfold fJ;split
  ·exact h
  ·split
   ·split
    ·exact h.same rfl
    ·intro x hx;rcases LO hx with hx|rfl
     ·exact h x hx
     ·exact hp
   ·exact h
 rw[aq h2];by_cases h3:o.what=3
 ·rw[az h3];have hs:=rB o.o o.proxy p.waits;unfold fV;split
  ·rename_i ws e;rw[e]at hs;exact h.sub (fun x hx=>hs.subset hx)
  ·rename_i ws x e;rw[e]at hs;exact h.sub (fun x hx=>hs.subset hx)
 rw[aq h3];by_cases h4:o.what=4
 ·rw[az h4];exact h
 rw[aq h4];by_cases h5:o.what=5
 ·rw[az h5];unfold gP;split
  ·exact h
  ·split
   ·exact h.same rfl
   ·exact h.same rfl
 rw[aq h5];by_cases h6:o.what=6
 ·rw[az h6];exact h
 rw[aq h6];by_cases h7:o.what=7
 ·rw[az h7];unfold jR;split
  ·exact h
  ·exact h.same rfl
 rw[aq h7];unfold pA;split
 ·exact mH.no
 ·split
  ·exact h.sub (fun x hx=>(fb.1 hx).1)
  ·exact h.sub (fun x hx=>(fb.1 hx).1)
def Ex(w:dx):Prop:=∀i,mH (w.part i)
theorem Ex.new:Ex yN:=fun _=>mH.no
theorem Ex.iC{w:dx}(h:Ex w)(o:iz)(hp:o.path.size<=5000):Ex (iC w o).1:=by
 unfold Go.Proofs.YtnckmcnffadjoaaGreatDoor.iC;split
 ·split
  ·split
   ·exact h
   ·exact h
  ·intro i;show mH ((w.set _ _).part i);unfold dx.set;simp only;split
   ·exact(h _).sF _ _ hp
   ·exact h i
 ·exact h
