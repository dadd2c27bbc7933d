/- WorldRep, Book7, WorldFit. -/
import Derived.Test.YtjdmjbdkdmbaiaaGreatDoorPk37
set_option maxRecDepth 100000
set_option maxHeartbeats 16000000
set_option linter.unusedSimpArgs false
namespace Go.Proofs.YtjdmjbdkdmbaiaaGreatDoor
open Go.RowKit
def ic(c:cO×Int):List Value:=[.bool c.1.ae,.string c.1.host,.int .i64 c.1.port,.int .i64 c.2]
structure bB where
 b:Nat
 gv:Value
 wv:Value
 k:Nat
 kv:Value
 cv:Value
def bB.cells(v:bB):List Value:=[.pointer (some ⟨v.b,0,none⟩),.pointer (some ⟨v.k,0,none⟩),v.cv]
structure cC (base:Nat) (w:World) (v:bB) (p:bH):Prop where
 gK:ba base w v.b v.gv v.wv p.aH p.waits
 book:cy base w v.k v.kv p.book
 dh:OwnRows base 109 4 w v.cv (p.dh.map ic)
def bB.gL(v:bB):Nat->Prop:=fun i=>aY v.b v.gv v.wv i\/dK v.k v.kv i\/own v.cv i
section
variable {base : Nat} {w w' : World} {v : bB} {p : bH}
theorem ba.dG{b:Nat}{gv wv:Value}{gs:List (ai aF)}{ws:List (aG aF)}(h:ba base w b gv wv gs ws){i:Nat}(hi:aY b gv wv i) :
  ∃c t,w.heap[i]?=some (.cells c t (0,0))/\(t=139\/t=49\/t=144):=by
 rcases hi with rfl|hi|hi
 ·exact⟨_,_,h.cR,Or.inl rfl⟩
 ·obtain⟨c,e⟩:=h.nK hi;exact⟨_,_,e,Or.inr (Or.inl rfl)⟩
 ·obtain⟨c,e⟩:=h.p_ hi;exact⟨_,_,e,Or.inr (Or.inr rfl)⟩
theorem cy.dG{b:Nat}{bv:Value}{ps:List bI}(h:cy base w b bv ps){i:Nat}(hi:dK b bv i) :
  ∃c t,w.heap[i]?=some (.cells c t (0,0))/\(t=141\/t=65):=by
 rcases hi with rfl|hi
 ·exact⟨_,_,h.cR,Or.inl rfl⟩
 ·obtain⟨c,e⟩:=h.rows.AR hi;exact⟨_,_,e,Or.inr rfl⟩
theorem ba.iU{b:Nat}{gv wv:Value}{gs:List (ai aF)}{ws:List (aG aF)}(h:ba base w b gv wv gs ws){i:Nat}(hi:aY b gv wv i):base<=i:=by
 rcases hi with rfl|hi|hi
 ·exact h.low
 ·exact h.agB hi
 ·exact h.agC hi
theorem cy.iU{b:Nat}{bv:Value}{ps:List bI}(h:cy base w b bv ps){i:Nat}(hi:dK b bv i):base<=i:=by
 rcases hi with rfl|hi
 ·exact h.low
 ·exact h.rows.block _ hi
theorem cC.dG(h:cC base w v p){i:Nat}(hi:v.gL i) :
  ∃c t,w.heap[i]?=some (.cells c t (0,0))/\(t=139\/t=49\/t=144\/t=141\/t=65\/t=109):=by
 rcases hi with hi|hi|hi
 ·obtain⟨c,t,e,ht⟩:=h.gK.dG hi;exact⟨c,t,e,by rcases ht with rfl|rfl|rfl<;>simp⟩
 ·obtain⟨c,t,e,ht⟩:=h.book.dG hi;exact⟨c,t,e,by rcases ht with rfl|rfl<;>simp⟩
 ·obtain⟨c,e⟩:=h.dh.AR hi;exact⟨c,_,e,by simp⟩
theorem cC.iU(h:cC base w v p){i:Nat}(hi:v.gL i):base<=i:=by
 rcases hi with hi|hi|hi
 ·exact h.gK.iU hi
 ·exact h.book.iU hi
 ·exact h.dh.block _ hi
theorem cC.fO(h:cC base w v p){i:Nat}(hi:v.gL i):i<w.heap.size:=by
 obtain⟨c,t,e,_⟩:=h.dG hi;exact aj e
theorem cC.off(h:cC base w v p):lT base w v.gL:=fun i hi _=>by
 refine⟨h.iU hi,fun c f e=>?_⟩;obtain⟨c',t,e',ht⟩:=h.dG hi;rw[e]at e';cases e';revert ht;decide
theorem cC.fr{S:Nat->Prop}(h:cC base w v p)(hf:Fr S w w')(ho:lT base w S)(hn:∀i,v.gL i->¬S i):cC base w' v p :=
 ⟨h.gK.fr hf ho (hn _ (Or.inl (Or.inl rfl))) (fun _ hk=>hn _ (Or.inl (Or.inr (Or.inl hk)))) (fun _ hk=>hn _ (Or.inl (Or.inr (Or.inr hk)))),
  h.book.fr hf (fun _ hk=>hn _ (Or.inr (Or.inl hk))),h.dh.fr hf (fun _ hk=>hn _ (Or.inr (Or.inr hk)))⟩
theorem cC.bd(h:cC base w v p)(hf:Fr ay w w'):cC base w' v p:=h.fr hf (lT.none _ _) (fun _ _ h=>h)
theorem cC.qN(h:cC base w v p){i:Nat}(hi:aY v.b v.gv v.wv i):¬dK v.k v.kv i:=fun hj=>by
 obtain⟨c,t,e,ht⟩:=h.gK.dG hi;obtain⟨c',t',e',ht'⟩:=h.book.dG hj;rw[e]at e';cases e';rcases ht with rfl|rfl|rfl<;>revert ht'<;>decide
theorem cC.qO(h:cC base w v p){i:Nat}(hi:aY v.b v.gv v.wv i):¬own v.cv i:=fun hj=>by
 obtain⟨c,t,e,ht⟩:=h.gK.dG hi;obtain⟨c',e'⟩:=h.dh.AR hj;rw[e]at e';cases e';revert ht;decide
theorem cC.AZ(h:cC base w v p){i:Nat}(hi:dK v.k v.kv i):¬own v.cv i:=fun hj=>by
 obtain⟨c,t,e,ht⟩:=h.book.dG hi;obtain⟨c',e'⟩:=h.dh.AR hj;rw[e]at e';cases e';revert ht;decide
end
def fo(pv:Nat->bB)(now:Int):List Value:=(pv 0).cells++((pv 1).cells++((pv 2).cells++((pv 3).cells++[.int .i64 now])))
def EJ(pv:Nat->bB)(i:Nat)(v:bB):Nat->bB:=fun j=>if j=i then v else pv j
def lG(cs:List Value)(o:Nat)(v:bB):List Value:=((cs.set o (.pointer (some ⟨v.b,0,none⟩))).set (o+1) (.pointer (some ⟨v.k,0,none⟩))).set (o+2) v.cv
theorem JU(pv:Nat->bB)(i:Nat)(v:bB):EJ pv i v i=v:=by unfold EJ;simp
theorem uo(pv:Nat->bB){i j:Nat}(v:bB)(h:j≠i):EJ pv i v j=pv j:=by unfold EJ;simp[h]
theorem yL(pv:Nat->bB)(now:Int){i:Nat}(hi:i<4)(v:bB):lG (fo pv now) (i*3) v=fo (EJ pv i v) now:=by
 unfold lG fo EJ bB.cells
 match i,hi with
 |0,_=>rfl
 |1,_=>rfl
 |2,_=>rfl
 |3,_=>rfl
theorem vn(pv:Nat->bB)(now:Int){i:Nat}(hi:i<4):(fo pv now)[i*3]?=some (.pointer (some ⟨(pv i).b,0,none⟩))/\(fo pv now)[i*3+1]?=some (.pointer (some ⟨(pv i).k,0,none⟩))/\(fo pv now)[i*3+2]?=some (pv i).cv:=by
 unfold fo bB.cells
 match i,hi with
 |0,_=>exact⟨rfl,rfl,rfl⟩
 |1,_=>exact⟨rfl,rfl,rfl⟩
 |2,_=>exact⟨rfl,rfl,rfl⟩
 |3,_=>exact⟨rfl,rfl,rfl⟩
structure aR (base:Nat) (w:World) (B:Nat) (pv:Nat->bB) (x:bW):Prop where
 low:base<=B
 cR:w.heap[B]?=some (.cells (fo pv x.now).toArray 105 (0,0))
 part:∀i,i<4->cC base w (pv i) (x.part i)
 apart:∀i j,i<4->j<4->i≠j->∀k,(pv i).gL k->¬(pv j).gL k
def jV(B:Nat)(pv:Nat->bB):Nat->Prop:=fun k=>k=B\/∃i,i<4/\(pv i).gL k
def aC(base:Nat)(w:World)(B:Nat)(pv:Nat->bB)(x:bW)(w':World):Prop :=
 ∃zu,aR base w' B zu x/\Fr (jV B pv) w w'/\∀k,jV B zu k->jV B pv k\/w.heap.size<=k
section
variable {base : Nat} {w w' : World} {B : Nat} {pv : Nat → bB} {x : bW}
theorem aR.lt(h:aR base w B pv x):B<w.heap.size:=aj h.cR
theorem aR.fO(h:aR base w B pv x){k:Nat}(hk:jV B pv k):k<w.heap.size:=by
 rcases hk with rfl|⟨i,hi,hk⟩
 ·exact h.lt
 ·exact(h.part i hi).fO hk
theorem aR.iU(h:aR base w B pv x){k:Nat}(hk:jV B pv k):base<=k:=by
 rcases hk with rfl|⟨i,hi,hk⟩
 ·exact h.low
 ·exact(h.part i hi).iU hk
theorem aR.EK(h:aR base w B pv x){i:Nat}(hi:i<4):¬(pv i).gL B:=fun hk=>by
 obtain⟨c,t,e,ht⟩:=(h.part i hi).dG hk;rw[h.cR]at e;cases e;revert ht;decide
theorem aR.aai(h:aR base w B pv x):lT base w (one B):=by
 rintro k rfl _;exact⟨h.low,fun c f e=>by rw[h.cR]at e;cases e⟩
theorem aR.off(h:aR base w B pv x):lT base w (jV B pv):=by
 rintro k(rfl|⟨i,hi,hk⟩)hl
 ·exact h.aai _ rfl hl
 ·exact(h.part i hi).off k hk hl
theorem aR.fr{S:Nat->Prop}(h:aR base w B pv x)(hf:Fr S w w')(ho:lT base w S)(hn:∀k,jV B pv k->¬S k):aR base w' B pv x :=
 ⟨h.low,hf.keep h.cR (hn B (Or.inl rfl)),fun i hi=>(h.part i hi).fr hf ho (fun k hk=>hn k (Or.inr ⟨i,hi,hk⟩)),h.apart⟩
theorem aR.bd(h:aR base w B pv x)(hf:Fr ay w w'):aR base w' B pv x:=h.fr hf (lT.none _ _) (fun _ _ h=>h)
theorem aC.same(h:aR base w B pv x)(hf:Fr ay w w'):aC base w B pv x w' :=
 ⟨pv,h.bd hf,hf.mono (fun _ _ h=>absurd h (fun h=>h)),fun _ hk=>Or.inl hk⟩
end
theorem aC.frame{base:Nat}{a w w':World}{B:Nat}{pv:Nat->bB}{x x':bW}(h:aC base w B pv x' w')(h0:aR base w B pv x)(hf:Fr ay a w)(hb:a.heap.size<=base):Fr ay a w':=by
 obtain⟨_,_,h2,_⟩:=h;refine hf.step h2 (fun k hk hw=>?_);have:=h0.iU hw;omega
structure cD (w:World) (B:Nat) (cs:List Value) (o:Nat) (v:bB):Prop where
 cR:w.heap[B]?=some (.cells cs.toArray 105 (0,0))
 c0:cs[o]?=some (.pointer (some ⟨v.b,0,none⟩))
 c1:cs[o+1]?=some (.pointer (some ⟨v.k,0,none⟩))
 c2:cs[o+2]?=some v.cv
theorem qQ{cs:List Value}{o:Nat}{v:bB}(c0:cs[o]?=some (.pointer (some ⟨v.b,0,none⟩)))(c1:cs[o+1]?=some (.pointer (some ⟨v.k,0,none⟩)))(c2:cs[o+2]?=some v.cv):lG cs o v=cs:=by
 unfold lG;apply List.ext_getElem?;intro i;by_cases h2:i=o+2
 ·subst h2;rw[List.getElem?_set_self (by simp;exact(List.getElem?_eq_some_iff.1 c2).1),c2]
 rw[List.getElem?_set_ne (Ne.symm h2)];by_cases h1:i=o+1
 ·subst h1;rw[List.getElem?_set_self (by simp;exact(List.getElem?_eq_some_iff.1 c1).1),c1]
 rw[List.getElem?_set_ne (Ne.symm h1)];by_cases h0:i=o
 ·subst h0;rw[List.getElem?_set_self (List.getElem?_eq_some_iff.1 c0).1,c0]
 rw[List.getElem?_set_ne (Ne.symm h0)]
section
variable {w w' : World} {B o : Nat} {cs : List Value} {v : bB}
theorem cD.cell0(h:cD w B cs o v):w.cell? ⟨B,o,none⟩=some (.pointer (some ⟨v.b,0,none⟩)):=by simp[World.cell?,h.cR,h.c0]
theorem cD.dM(h:cD w B cs o v):w.cell? ⟨B,o+1,none⟩=some (.pointer (some ⟨v.k,0,none⟩)):=by simp[World.cell?,h.cR,h.c1]
theorem cD.ir(h:cD w B cs o v):w.cell? ⟨B,o+2,none⟩=some v.cv:=by simp[World.cell?,h.cR,h.c2]
theorem cD.free(h:cD w B cs o v)(k:Nat):w.frozen? ⟨B,k,none⟩=false:=by simp[World.frozen?,h.cR]
theorem cD.fr{S:Nat->Prop}(h:cD w B cs o v)(hf:Fr S w w')(hn:¬S B):cD w' B cs o v:=⟨hf.keep h.cR hn,h.c0,h.c1,h.c2⟩
theorem cD.bd(h:cD w B cs o v)(hf:Fr ay w w'):cD w' B cs o v:=h.fr hf (fun h=>h)
end
def uq(B:Nat)(v:bB):Nat->Prop:=fun k=>k=B\/v.gL k
def aA(base:Nat)(w:World)(B:Nat)(cs:List Value)(o:Nat)(v:bB)(p:bH)(w':World):Prop :=
 ∃v',cC base w' v' p/\Fr (uq B v) w w'/\(∀k,v'.gL k->v.gL k\/w.heap.size<=k)/\w'.heap[B]?=some (.cells (lG cs o v').toArray 105 (0,0))
theorem aA.same{base:Nat}{w w':World}{B o:Nat}{cs:List Value}{v:bB}{p:bH}(h:cC base w v p)(ha:cD w B cs o v)(hf:Fr ay w w'):aA base w B cs o v p w' :=
 ⟨v,h.bd hf,hf.mono (fun _ _ h=>absurd h (fun h=>h)),fun _ hk=>Or.inl hk,by rw[qQ ha.c0 ha.c1 ha.c2];exact hf.keep ha.cR (fun h=>h)⟩
theorem aA.gK{base:Nat}{w w':World}{B o:Nat}{cs:List Value}{v:bB}{p:bH}(h:cC base w v p)(ha:cD w B cs o v)(hB:¬v.gL B){gs:List (ai aF)}{ws:List (aG aF)}(hp:fj base w v.b v.gv v.wv gs ws w') :
  aA base w B cs o v {p with aH:=gs,waits:=ws} w':=by
 obtain⟨gv',wv',h1,h2,h3⟩:=hp;refine⟨⟨v.b,gv',wv',v.k,v.kv,v.cv⟩,⟨h1,?_,?_⟩,h2.mono (fun k _ hk=>Or.inr (Or.inl hk)),?_,?_⟩
 ·exact h.book.fr h2 (fun k hk hb=>h.qN hb hk)
 ·exact h.dh.fr h2 (fun k hk hb=>h.qO hb hk)
 ·rintro k(hk|hk|hk)
  ·rcases h3 k hk with hk|hk
   ·exact Or.inl (Or.inl hk)
   ·exact Or.inr hk
  ·exact Or.inl (Or.inr (Or.inl hk))
  ·exact Or.inl (Or.inr (Or.inr hk))
 ·show w'.heap[B]?=some (.cells (lG cs o v).toArray _ _);rw[qQ ha.c0 ha.c1 ha.c2];exact h2.keep ha.cR (fun hb=>hB (Or.inl hb))
theorem aA.book{base:Nat}{w w':World}{B o:Nat}{cs:List Value}{v:bB}{p:bH}(h:cC base w v p)(ha:cD w B cs o v)(hB:¬v.gL B){ps:List bI}(hp:yB base w v.k v.kv ps w') :
  aA base w B cs o v {p with book:=ps} w':=by
 obtain⟨kv',h1,h2,h3⟩:=hp;have kb:lT base w (dK v.k v.kv):=fun k hk hl=>h.off k (Or.inr (Or.inl hk)) hl;refine⟨⟨v.b,v.gv,v.wv,v.k,kv',v.cv⟩,⟨?_,h1,?_⟩,h2.mono (fun k _ hk=>Or.inr (Or.inr (Or.inl hk))),?_,?_⟩
 ·exact h.gK.fr h2 kb (fun hb=>h.qN (Or.inl rfl) hb) (fun k hk hb=>h.qN (Or.inr (Or.inl hk)) hb) (fun k hk hb=>h.qN (Or.inr (Or.inr hk)) hb)
 ·exact h.dh.fr h2 (fun k hk hb=>h.AZ hb hk)
 ·rintro k(hk|hk|hk)
  ·exact Or.inl (Or.inl hk)
  ·rcases h3 k hk with hk|hk
   ·exact Or.inl (Or.inr (Or.inl hk))
   ·exact Or.inr hk
  ·exact Or.inl (Or.inr (Or.inr hk))
 ·show w'.heap[B]?=some (.cells (lG cs o v).toArray _ _);rw[qQ ha.c0 ha.c1 ha.c2];exact h2.keep ha.cR (fun hb=>hB (Or.inr (Or.inl hb)))
theorem aA.after{base:Nat}{a w w':World}{B o:Nat}{cs:List Value}{v:bB}{p:bH}(hf:Fr ay a w)(h:aA base w B cs o v p w'):aA base a B cs o v p w':=by
 obtain⟨v',h1,h2,h3,h4⟩:=h;refine⟨v',h1,Fr.step (S:=uq B v) (hf.mono (fun _ _ h=>absurd h (fun h=>h))) h2 (fun _ _ h=>h),fun k hk=>?_,h4⟩;rcases h3 k hk with h|h
 ·exact Or.inl h
 ·exact Or.inr (Nat.le_trans hf.size h)
theorem aA.then{base:Nat}{a w w':World}{B o:Nat}{cs:List Value}{v:bB}{p:bH}(h:aA base a B cs o v p w)(hf:Fr ay w w'):aA base a B cs o v p w':=by
 obtain⟨v',h1,h2,h3,h4⟩:=h;exact⟨v',h1.bd hf,h2.step (T:=ay) hf (fun _ _ h=>absurd h (fun h=>h)),h3,hf.keep h4 (fun h=>h)⟩
theorem aR.step{base:Nat}{w w':World}{B:Nat}{pv:Nat->bB}{x:bW}{i:Nat}{p:bH}(h:aR base w B pv x)(hi:i<4)(hp:aA base w B (fo pv x.now) (i*3) (pv i) p w') :
  aC base w B pv (x.set i p) w':=by
 obtain⟨v',h1,h2,h3,h4⟩:=hp;have ia:∀j k,j<4->(EJ pv i v' j).gL k->(pv j).gL k\/w.heap.size<=k:=by
  intro j k hj hk;by_cases NI:j=i
  ·subst NI;rw[JU]at hk;exact h3 k hk
  ·rw[uo pv v' NI]at hk;exact Or.inl hk
 refine⟨EJ pv i v',⟨h.low,?_,fun j hj=>?_,fun a b ha hb mo k hka tS=>?_⟩,h2.mono ?_,?_⟩
 ·rw[h4,yL pv x.now hi];rfl
 ·by_cases NI:j=i
  ·subst NI;rw[JU,bW.qj];exact h1
  ·rw[uo pv v' NI,bW.Cf _ _ NI];refine(h.part j hj).fr h2 ?_ ?_
   ·rintro k(rfl|hk)hl
    ·exact h.aai _ rfl hl
    ·exact(h.part i hi).off k hk hl
   ·rintro k hk(rfl|Zw)
    ·exact h.EK hj hk
    ·exact h.apart j i hj hi NI k hk Zw
 ·rcases ia a k ha hka with h5|h5
  ·rcases ia b k hb tS with h6|h6
   ·exact h.apart a b ha hb mo k h5 h6
   ·have:=(h.part a ha).fO h5;omega
  ·rcases ia b k hb tS with h6|h6
   ·have:=(h.part b hb).fO h6;omega
   ·by_cases hai:a=i
    ·by_cases hbi:b=i
     ·exact mo (hai.trans hbi.symm)
     ·rw[uo pv v' hbi]at tS;have:=(h.part b hb).fO tS;omega
    ·rw[uo pv v' hai]at hka;have:=(h.part a ha).fO hka;omega
 ·rintro k _(rfl|hk)
  ·exact Or.inl rfl
  ·exact Or.inr ⟨i,hi,hk⟩
 ·rintro k(rfl|⟨j,hj,hk⟩)
  ·exact Or.inl (Or.inl rfl)
  ·rcases ia j k hj hk with h5|h5
   ·exact Or.inl (Or.inr ⟨j,hj,h5⟩)
   ·exact Or.inr h5
theorem aR.partAt{base:Nat}{w:World}{B:Nat}{pv:Nat->bB}{x:bW}(h:aR base w B pv x){i:Nat}(hi:i<4):cD w B (fo pv x.now) (i*3) (pv i) :=
 ⟨h.cR,(vn pv x.now hi).1,(vn pv x.now hi).2.1,(vn pv x.now hi).2.2⟩
def nk.val(r:nk):Value:=.agg #[.int .i64 r.what,.string r.head,.int .i64 r.cert]
structure ei where
 what:Int
 ab:dp Value
 proxy:Bool
 text:ByteArray
 user:ByteArray
 pass:ByteArray
 aB:ByteArray
 cert:Int
 all:Bool
 n:Int
def ei.cells(o:ei):List Value:=.int .i64 o.what :: (o.ab.cells++[.bool o.proxy,.string o.text,.string o.user,.string o.pass,.string o.aB,.int .i64 o.cert,.bool o.all,.int .i64 o.n])
def ei.bF(o:ei)(hs:List dW):ib:=⟨o.what,o.ab.part,o.ab.aI,o.ab.o,o.ab.path,o.ab.query,o.ab.method,hs,o.ab.bP,o.ab.body,o.proxy,o.text,o.user,o.pass,o.aB,o.cert,o.all,o.n⟩
structure bg (w:World) (o:ei) (hs:List dW):Prop where
 cU:kU w o.ab.cU hs
 ab:AQ o.ab hs
 aI:o.ab.aI.host.size<100000
 ori:o.ab.o.host.size<100000
 path:o.ab.path.size<=2000
 query:o.ab.query.size<=2000
 method:o.ab.method.size<=5000
 body:o.ab.body.size<=5000
 text:o.text.size<100000
 user:o.user.size<=5000
 pass:o.pass.size<=5000
 aB:o.aB.size<=5000
 Pu: -9223372036854775808<=o.ab.aI.port/\o.ab.aI.port<=9223372036854775807
 Pv: -9223372036854775808<=o.ab.o.port/\o.ab.o.port<=9223372036854775807
 part: -9223372036854775808<=o.ab.part/\o.ab.part<=9223372036854775807
 what: -9223372036854775808<=o.what/\o.what<=9223372036854775807
 cert: -9223372036854775808<=o.cert/\o.cert<=9223372036854775807
 n: -9223372036854775808<=o.n/\o.n<=9223372036854775807
theorem bg.bd{w w':World}{o:ei}{hs:List dW}(h:bg w o hs)(hf:Fr ay w w'):bg w' o hs:={h with cU:=aN.bu h.cU hf}
theorem Ff(base:Nat)(w:World)(b:Nat)(v:Value)(ps:List bI)(r:dp Value)(hs:List dW)(now:Int)(h:cy base w b v ps)(hlen:ps.length<1000000)(hr:kU w r.cU hs)(hz:AQ r hs) :
  Calls Tryz.prog 57 #[.pointer (some ⟨b,0,none⟩),.agg r.cells.toArray,.int .i64 now] w fun e w'=>e=.returned (.bool (hZ ps (r.bF hs) now))/\Fr ay w w':=by
 have di:=O (show hZ ps (r.bF hs) now=(!(r.bF hs).needs||(r.bF hs).iA (dY ps (r.bF hs) now))from rfl);generalize hZ ps (r.bF hs) now=res at di ⊢;obtain⟨w1,jt⟩:∃w1,w1=w.alloc (.cells r.cells.toArray 29):=⟨_,rfl⟩;have bt:Fr ay w w1:=by rw[jt];exact(Fr.refl _ _).alloc _
 have gZ:w1.heap[w.heap.size]?=some (.cells r.cells.toArray 29 (0,0)):=by rw[jt];exact af _ _
 have HN:=O (show∀U,Fr ay w1 U->Calls Tryz.prog 28 #[.agg r.cells.toArray] U fun e w'=>e=.returned (.bool (r.bF hs).needs)/\Fr ay U w' from fun U hU=>Lu r hs U (aN.bu hr (bt.trans hU)) hz)
 have M9:=O (show∀U,Fr ay w1 U->Calls Tryz.prog 117 #[.pointer (some ⟨b,0,none⟩),.agg r.cells.toArray,.int .i64 now] U fun e w'=>∃v',e=.returned v'/\OwnRows U.heap.size 65 12 w' v' ((dY ps (r.bF hs) now).map bI.cells)/\Fr ay U w' from fun U hU=>VB base U b v ps r hs now (h.bd (bt.trans hU)) hlen)
 have wS:=O (show∀U,Fr ay w1 U->∀lv,oV U lv (dY ps (r.bF hs) now)->Calls Tryz.prog 75 #[.agg r.cells.toArray,lv] U fun e w'=>e=.returned (.bool ((r.bF hs).iA (dY ps (r.bF hs) now)))/\Fr ay U w' from fun U hU lv hlv=>sH r hs lv _ U (aN.bu hr (bt.trans hU)) hlv hz);obtain⟨ah,ch,df⟩:=aN.form hr;rw[List.length_map]at df
 have nw:r.cells=[.int .i64 r.part,.bool r.aI.ae,.string r.aI.host,.int .i64 r.aI.port,.bool r.o.ae,.string r.o.host,.int .i64 r.o.port,.string r.path,.string r.query,.string r.method,.slice ah hs.length ch,.bool r.bP,.string r.body]:=by unfold dp.cells;rw[df]
 have HC:=O (show∀U,Fr ay w1 U->(U.cell? ⟨w.heap.size,0,none⟩=some (.int .i64 r.part)/\U.cell? ⟨w.heap.size,1,none⟩=some (.bool r.aI.ae)/\U.cell? ⟨w.heap.size,2,none⟩=some (.string r.aI.host)/\U.cell? ⟨w.heap.size,3,none⟩=some (.int .i64 r.aI.port)/\U.cell? ⟨w.heap.size,4,none⟩=some (.bool r.o.ae)/\U.cell? ⟨w.heap.size,5,none⟩=some (.string r.o.host)/\U.cell? ⟨w.heap.size,6,none⟩=some (.int .i64 r.o.port)/\U.cell? ⟨w.heap.size,7,none⟩=some (.string r.path)/\U.cell? ⟨w.heap.size,8,none⟩=some (.string r.query)/\U.cell? ⟨w.heap.size,9,none⟩=some (.string r.method)/\U.cell? ⟨w.heap.size,10,none⟩=some (.slice ah hs.length ch)/\U.cell? ⟨w.heap.size,11,none⟩=some (.bool r.bP)/\U.cell? ⟨w.heap.size,12,none⟩=some (.string r.body))from fun U hU=>by
  have j:=hU.keep gZ (fun h=>h);rw[nw]at j;simp[World.cell?,j])
 rw[nw]at HN M9 wS jt ⊢;have gV:=O bt;have hhw:=jt;clear h hr hz bt gZ nw df;cases hn:(r.bF hs).needs
 ·have HR:=O (show res=true by rw[di.out,hn];rfl);rw[hn]at HN;clear hn di M9 wS hhw;go_enter Tryz.func57,Tryz.ntmps57;go_wp2_with fail
  rw[<-jt];clear jt
  refine wp_region_held_drew (S:=(fun U=>U.cell? ⟨w.heap.size,0,none⟩=some (.int .i64 r.part)/\U.cell? ⟨w.heap.size,1,none⟩=some (.bool r.aI.ae)/\U.cell? ⟨w.heap.size,2,none⟩=some (.string r.aI.host)/\U.cell? ⟨w.heap.size,3,none⟩=some (.int .i64 r.aI.port)/\U.cell? ⟨w.heap.size,4,none⟩=some (.bool r.o.ae)/\U.cell? ⟨w.heap.size,5,none⟩=some (.string r.o.host)/\U.cell? ⟨w.heap.size,6,none⟩=some (.int .i64 r.o.port)/\U.cell? ⟨w.heap.size,7,none⟩=some (.string r.path)/\U.cell? ⟨w.heap.size,8,none⟩=some (.string r.query)/\U.cell? ⟨w.heap.size,9,none⟩=some (.string r.method)/\U.cell? ⟨w.heap.size,10,none⟩=some (.slice ah hs.length ch)/\U.cell? ⟨w.heap.size,11,none⟩=some (.bool r.bP)/\U.cell? ⟨w.heap.size,12,none⟩=some (.string r.body))) (by kernel_rfl) (HC.out _ (Fr.refl ay w1).drew) ?_
  intro cW;refine tk 0 ⟨some 7,_,_,_,_,_⟩ (v:=?_) rfl (by rfl) ?hy ?_
  case hy=>(intro w hSw;(try dsimp only at hSw);go_simp<;>with_reducible rfl)
  try simp only[Act.put,sA,sB,sC]
  refine wpAnyH_ready (rs:=[1]) (by kernel_rfl) (by simp) ?_;refine AllReadyH.cons rfl (fun K hK=>?_) AllReadyH.nil;go_simp;refine(HN.out _ (Fr.refl ay w1).drew).mono ?_;rintro e v1⟨rfl,FG⟩;have dk:=O (show Fr ay w1 v1 from((Fr.refl ay w1).drew).trans FG);refine hK.out _ _ (HC.out _ dk.out) ?_;intro CY;clear hK cW FG K
  try simp only[Act.put,sA,sB,sC]
  refine tk 2 ⟨some 9,_,_,_,_,_⟩ (v:=?_) rfl (by rfl) ?hy ?_
  case hy=>(intro w hSw;(try dsimp only at hSw);go_simp<;>with_reducible rfl)
  try simp only[Act.put,sA,sB,sC]
  refine tk 3 ⟨some 10,_,_,_,_,_⟩ (v:=?_) rfl (by rfl) ?hy ?_
  case hy=>(intro w hSw;(try dsimp only at hSw);go_simp<;>with_reducible rfl)
  try simp only[Act.put,sA,sB,sC]
  refine wpAnyH_take (i:=4) (oi:=⟨some 11,_,_,_,_,_⟩) (v:=undef) rfl (by kernel_rfl) (by kernel_rfl) (by kernel_rfl) (fun _ _ _ h=>h) (Or.inr ⟨by rfl,rfl⟩) (by assumption) ?_
  try simp only[Act.put,sA,sB,sC]
  refine wpAnyH_take (i:=5) (oi:=⟨some 12,_,_,_,_,_⟩) (v:=undef) rfl (by kernel_rfl) (by kernel_rfl) (by kernel_rfl) (fun _ _ _ h=>h) (Or.inr ⟨by rfl,rfl⟩) (by assumption) ?_
  try simp only[Act.put,sA,sB,sC]
  refine wpAnyH_take (i:=6) (oi:=⟨some 13,_,_,_,_,_⟩) (v:=undef) rfl (by kernel_rfl) (by kernel_rfl) (by kernel_rfl) (fun _ _ _ h=>h) (Or.inr ⟨by rfl,rfl⟩) (by assumption) ?_
  try simp only[Act.put,sA,sB,sC]
  refine wpAnyH_take (i:=7) (oi:=⟨some 14,_,_,_,_,_⟩) (v:=undef) rfl (by kernel_rfl) (by kernel_rfl) (by kernel_rfl) (fun _ _ _ h=>h) (Or.inr ⟨by rfl,rfl⟩) (by assumption) ?_
  try simp only[Act.put,sA,sB,sC]
  refine wpAnyH_take (i:=8) (oi:=⟨some 15,_,_,_,_,_⟩) (v:=undef) rfl (by kernel_rfl) (by kernel_rfl) (by kernel_rfl) (fun _ _ _ h=>h) (Or.inr ⟨by rfl,rfl⟩) (by assumption) ?_
  try simp only[Act.put,sA,sB,sC]
  refine wpAnyH_take (i:=9) (oi:=⟨some 16,_,_,_,_,_⟩) (v:=undef) rfl (by kernel_rfl) (by kernel_rfl) (by kernel_rfl) (fun _ _ _ h=>h) (Or.inr ⟨by rfl,rfl⟩) (by assumption) ?_
  try simp only[Act.put,sA,sB,sC]
  refine tk 10 ⟨some 17,_,_,_,_,_⟩ (v:=?_) rfl (by rfl) ?hy ?_
  case hy=>(intro w hSw;(try dsimp only at hSw);go_simp<;>with_reducible rfl)
  try simp only[Act.put,sA,sB,sC]
  refine tk 11 ⟨some 6,_,_,_,_,_⟩ (v:=?_) rfl (by rfl) ?hy ?_
  case hy=>(intro w hSw;(try dsimp only at hSw);go_simp<;>with_reducible rfl)
  try simp only[Act.put,sA,sB,sC]
  refine wpAnyH_done (by kernel_rfl) ?_ _;go_wp2;go_ret;exact⟨by rw[HR.out];rfl,gV.out.trans dk.out⟩
 ·have HR:=O (show res=(r.bF hs).iA (dY ps (r.bF hs) now)by rw[di.out,hn];rfl);rw[hn]at HN;generalize (r.bF hs).iA (dY ps (r.bF hs) now)=cv at *
  generalize dY ps (r.bF hs) now=fs at *
  clear hn di hhw;go_enter Tryz.func57,Tryz.ntmps57;go_wp2_with fail
  rw[<-jt];clear jt
  go_region_held3 (fun U=>Fr ay w1 U/\U.cell? ⟨w.heap.size,0,none⟩=some (.int .i64 r.part)/\U.cell? ⟨w.heap.size,1,none⟩=some (.bool r.aI.ae)/\U.cell? ⟨w.heap.size,2,none⟩=some (.string r.aI.host)/\U.cell? ⟨w.heap.size,3,none⟩=some (.int .i64 r.aI.port)/\U.cell? ⟨w.heap.size,4,none⟩=some (.bool r.o.ae)/\U.cell? ⟨w.heap.size,5,none⟩=some (.string r.o.host)/\U.cell? ⟨w.heap.size,6,none⟩=some (.int .i64 r.o.port)/\U.cell? ⟨w.heap.size,7,none⟩=some (.string r.path)/\U.cell? ⟨w.heap.size,8,none⟩=some (.string r.query)/\U.cell? ⟨w.heap.size,9,none⟩=some (.string r.method)/\U.cell? ⟨w.heap.size,10,none⟩=some (.slice ah hs.length ch)/\U.cell? ⟨w.heap.size,11,none⟩=some (.bool r.bP)/\U.cell? ⟨w.heap.size,12,none⟩=some (.string r.body)) ((refine(fun hU=>⟨hU,HC.out _ hU⟩) ?_;repeat(first|exact Fr.refl _ _|assumption|apply Fr.alloc|apply Fr.drew|refine Fr.trans ?_ (by assumption))))
   ((first
    |(go_at_call 28;refine(HN.out _ (by repeat(first|exact Fr.refl _ _|assumption|apply Fr.drew|apply Fr.alloc|refine Fr.trans ?_ (by assumption)))).mono ?_;rintro e u1 ⟨rfl,rF⟩)
    |(go_at_call 117;refine(M9.out _ (by repeat(first|exact Fr.refl _ _|assumption|apply Fr.drew|apply Fr.alloc|refine Fr.trans ?_ (by assumption)))).mono ?_;rintro e u2 ⟨fv,rfl,El,jZ⟩)
    |(go_at_call 75;refine(wS.out _ (by repeat(first|exact Fr.refl _ _|assumption|apply Fr.drew|apply Fr.alloc|refine Fr.trans ?_ (by assumption))) _ (aN.bu El.at (by repeat(first|exact Fr.refl _ _|assumption|apply Fr.drew|apply Fr.alloc|refine Fr.trans ?_ (by assumption))))).mono ?_;rintro e u3 ⟨rfl,pz⟩)))
  have dk:=O (show Fr ay w1 u3 from by repeat(first|exact Fr.refl _ _|assumption|apply Fr.drew|apply Fr.alloc|refine Fr.trans ?_ (by assumption)));clear rF jZ pz;go_wp2;go_ret;exact⟨by rw[HR.out];rfl,gV.out.trans dk.out⟩
def AX(a:cQ aF):Prop:=a.ar.size<=3000/\a.aE.size<=3000/\a.aK.size<=3000/\a.dom.length<=3001
def Pr(g:ai aF):Prop:=AX g.a/\g.user.size<=5000/\g.pass.size<=5000
theorem Ck{M:Nat}{ps:List ew}(h:qM M ps){n v:Bs}(e:eZ ps n=some v):v.length<=M:=by
 unfold eZ at e;cases hf:ps.find? (fun p=>bf p.1 n)with
 |none=>rw[hf]at e;cases e
 |some p =>
  rw[hf]at e;obtain rfl:p.2=v:=by simpa using e
  exact(h p (List.mem_of_find?_eq_some hf)).2
theorem JQ{M:Nat}{ps:List ew}(h:qM M ps)(n:Bs):((eZ ps n).getD []).length<=M:=by
 cases e:eZ ps n with
 |none=>exact Nat.zero_le _
 |some v=>exact Ck h e
theorem wm(c:UInt8):∀l:Bs,(bD c l).length<=l.length+1
 |[]=>by simp[bD]
 |x :: l=>by
  have ih:=wm c l;by_cases hx:x=c
  ·subst hx;rw[lO];simp;exact ih
  ·cases e:bD c l with
   |nil=>exact absurd e (qA c l)
   |cons p ps =>
    rw[jm hx e];rw[e]at ih;simp at ih ⊢; omega
theorem LG(d:Bs):(BC d).length<=d.length+1:=by
 unfold BC;rw[List.length_map];exact Nat.le_trans (List.length_filter_le _ _) (wm 32 d)
theorem LH{x:iI}{a:cQ aF}(hx:x.Le 3000)(h:iz x=some a):AX a:=by
 have hp:=hx.tB;unfold iz at h;split at h
 ·cases h
 rename_i ar hr;have h1:=Ck hp hr;split at h
 ·cases h;exact⟨h1,Nat.zero_le _,Nat.zero_le _,Nat.zero_le _⟩
 split at h
 ·cases h
 split at h
 ·cases h
 split at h
 ·cases h
 rename_i aE hn;have h2:=Ck hp hn;split at h
 ·cases h
 ·cases h;refine⟨h1,h2,JQ hp gP,?_⟩;show((BC ((eZ x.params lo).getD [])).map bA).length<=3001;rw[List.length_map];have:=LG ((eZ x.params lo).getD []);have:=JQ hp lo;omega
theorem Ps:AX IW:=⟨Nat.zero_le _,Nat.zero_le _,Nat.zero_le _,Nat.zero_le _⟩
theorem Pt{l:List iI}(h:∀x∈l,x.Le 3000):AX (d_ l):=by
 unfold d_;rcases JO l IW with e|⟨x,hx,e⟩
 ·rw[e];exact Ps
 ·exact LH (h x hx) e
theorem JR{r:Bs}{l:List iI}(h:g_ r=.ok l):AX (d_ l):=by
 refine Pt (fun x hx=>?_);have h1:=wj h x hx;have h2:=wk h;exact⟨Nat.le_trans h1.scheme h2,Nat.le_trans h1.token h2,fun p hp=>⟨Nat.le_trans (h1.tB p hp).1 h2,Nat.le_trans (h1.tB p hp).2 h2⟩⟩
theorem EE{gs:List (ai aF)}{g x:ai aF}(h:x∈oy gs g):x∈gs\/x=g:=by
 unfold oy at h;have h:=List.mem_of_mem_drop h;rcases List.mem_append.1 h with h|h
 ·exact Or.inl (List.mem_filter.1 h).1
 ·exact Or.inr (List.mem_singleton.1 h)
theorem EF{ws:List (aG aF)}{m x:aG aF}(h:x∈re ws m):x∈ws\/x=m:=by
 unfold re at h;have h:=List.mem_of_mem_drop h;rcases List.mem_append.1 h with h|h
 ·exact Or.inl ((lM _ _ _).subset h)
 ·exact Or.inr (List.mem_singleton.1 h)
theorem vh{o:cO}{proxy:Bool}:∀ {ws:List (aG aF)} {g:aG aF},(fk o proxy ws).2=some g->g∈ws
 |[],_,h=>by cases h
 |x :: l,g,h=>by
  rw[fk]at h;cases hx:qf o proxy x
  ·rw[hx]at h;simp only[Bool.false_eq_true,if_false]at h;exact List.mem_cons_of_mem _ (vh h)
  ·rw[hx]at h;simp only[if_true]at h;cases h;exact List.mem_cons_self
theorem EG{gs:List (ai aF)}{o:cO}{proxy:Bool}{path:ByteArray}{P:ai aF->Prop}(hP:∀g,P g->P g.used)(h:∀x∈gs,P x) :
  (∀x∈(mD gs o proxy path).1,P x)/\∀g,(mD gs o proxy path).2=.ok g->P g:=by
 unfold mD;split
 ·split
  ·rename_i g hg;have hl:∀x∈gs.take (lj gs o proxy path).toNat++gs.drop ((lj gs o proxy path).toNat+1),P x:=fun x hx=>by
    rcases List.mem_append.1 hx with hx|hx
    ·exact h x (List.mem_of_mem_take hx)
    ·exact h x (List.mem_of_mem_drop hx)
   have hg':P g.used:=hP g (h g (List.mem_of_getElem? hg));simp only;split
   ·exact⟨hl,fun g h=>by cases h⟩
   ·refine⟨fun x hx=>?_,fun g h=>by cases h;exact hg'⟩;rcases List.mem_append.1 hx with hx|hx
    ·exact hl x hx
    ·rw[List.mem_singleton]at hx;rw[hx];exact hg'
  ·exact⟨h,fun g h=>by cases h⟩
 ·exact⟨h,fun g h=>by cases h⟩
structure nn (p:bH):Prop where
 aH:∀g∈p.aH,Pr g
 waits:∀x∈p.waits,AX x.a
theorem nn.no:nn qh:=⟨fun _ h=>(by cases h),fun _ h=>(by cases h)⟩
theorem nn.lF{p:bH}(h:nn p)(now:Int)(o:ib)(hu:o.user.size<=5000)(hp:o.pass.size<=5000):nn (lF p now o).1:=by
 obtain⟨hg,hw⟩:=h;unfold Go.Proofs.YtjdmjbdkdmbaiaaGreatDoor.lF;by_cases h1:o.what=1
 ·rw[if_pos h1];have hU:=(EG (gs:=p.aH) (o:=o.o) (proxy:=o.proxy) (path:=o.path) (P:=Pr) (fun _ h=>h) hg).1;unfold ft;split
  ·rename_i gs e he;rw[he]at hU;exact⟨hU,hw⟩
  ·rename_i gs g he;rw[he]at hU;split
   ·exact⟨fun x hx=>hU x (List.mem_filter.1 hx).1,hw⟩
   ·exact⟨hU,hw⟩
 rw[if_neg h1];by_cases h2:o.what=2
 ·rw[if_pos h2];unfold ee;split
  ·exact⟨hg,hw⟩
  ·rename_i l hl;have hb:=JR hl;split
   ·split
    ·rename_i g hs;refine⟨fun x hx=>?_,hw⟩;rcases EE hx with hx|rfl
     ·exact hg x hx
     ·unfold yE at hs;split at hs
      ·rename_i g' hg';split at hs
       ·cases hs;have:=hg g' (List.mem_of_find?_eq_some hg');exact⟨hb,this.2⟩
       ·cases hs
      ·cases hs
    ·refine⟨fun x hx=>hg x (List.mem_filter.1 hx).1,fun x hx=>?_⟩;rcases EF hx with hx|rfl
     ·exact hw x hx
     ·exact hb
   ·exact⟨hg,hw⟩
 rw[if_neg h2];by_cases h3:o.what=3
 ·rw[if_pos h3];have hs:=lM o.o o.proxy p.waits;unfold ef;split
  ·rename_i ws e;rw[e]at hs;exact⟨hg,fun x hx=>hw x (hs.subset hx)⟩
  ·rename_i ws x e;have hx:=vh (o:=o.o) (proxy:=o.proxy) (ws:=p.waits) (g:=x) (by rw[e]);rw[e]at hs;refine⟨fun y hy=>?_,fun x hx=>hw x (hs.subset hx)⟩;rcases EE hy with hy|rfl
   ·exact hg y hy
   ·exact⟨hw x hx,hu,hp⟩
 rw[if_neg h3];by_cases h4:o.what=4
 ·rw[if_pos h4];exact⟨hg,hw⟩
 rw[if_neg h4];by_cases h5:o.what=5
 ·rw[if_pos h5];unfold fS;split
  ·exact⟨hg,hw⟩
  ·split
   ·exact⟨hg,hw⟩
   ·exact⟨hg,hw⟩
 rw[if_neg h5];by_cases h6:o.what=6
 ·rw[if_pos h6];exact⟨hg,hw⟩
 rw[if_neg h6];by_cases h7:o.what=7
 ·rw[if_pos h7];unfold jU;split
  ·exact⟨hg,hw⟩
  ·exact⟨hg,hw⟩
 rw[if_neg h7];unfold kN;split
 ·exact nn.no
 ·have NX:nn (qi p o.o):=⟨fun x hx=>hg x (List.mem_filter.1 hx).1,fun x hx=>hw x (List.mem_filter.1 hx).1⟩;split
  ·exact⟨NX.aH,NX.waits⟩
  ·exact NX
def yI(w:bW):Prop:=∀k,nn (w.part k)
theorem yI.new:yI yD:=fun _=>nn.no
theorem yI.cV{w:bW}(h:yI w)(o:ib)(hu:o.user.size<=5000)(hp:o.pass.size<=5000):yI (cV w o).1:=by
 cases hr:o.right
 ·rw[gR hr];exact h
 ·by_cases hw:o.what=10
  ·rw[uh hr hw];split
   ·exact h
   ·exact h
  ·rw[fI hr hw];intro k;by_cases hk:k=o.part.toNat
   ·subst hk;rw[bW.qj];exact(h _).lF _ _ hu hp
   ·rw[bW.Cf _ _ hk];exact h k
end Go.Proofs.YtjdmjbdkdmbaiaaGreatDoor
