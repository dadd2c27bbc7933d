/- TbWls, TwoW, TakeR, TbIs, WTake, TbFew, TbCan, Scr2, TbBeg, TbStoN, ScrLaw, TbC3. -/
import Derived.Test.YtpkkncoddhkfkaaGreatDoorPk4
set_option maxRecDepth 100000
set_option maxHeartbeats 16000000
set_option linter.unusedSimpArgs false
namespace Go.Proofs.YtpkkncoddhkfkaaGreatDoor
open Go.Proofs.Tryz
open Go.RowKit
variable {n i B base m:Nat} {c:Array Value} {t t':cX} {x:bu} {k:Int} {e:TypeId} {v:dK×List dP} {xs:List (List Value)} {sv:Value} {w V:World} {cs:List Value} {q:bh} {xw:Option (Nat×bu)} {sb:Nat->Nat} {o:df} {l:List sU}
def gU(base:Nat)(U:World)(ws:Nat->Option (Nat×bu)):Prop :=
 ∃pv:Nat->Nat->bh,(∀i B x,ws i=some (B,x)->aQ base U B (pv i) x)/\∀i j B x C y,i≠j->ws i=some (B,x)->ws j=some (C,y)->∀k,dJ B (pv i) k->¬dJ C (pv j) k
section
variable {base : Nat} {a U U' : World} {ws : Nat → Option (Nat × bu)}
theorem gU.dv(h:gU base U ws)(hf:Fr aU U U'):gU base U' ws:=by
 obtain⟨pv,h1,h2⟩:=h;exact⟨pv,fun i B x hi=>(h1 i B x hi).dv hf,h2⟩
theorem gU.sub{GH:Nat->Option (Nat×bu)}(h:gU base U ws)(hs:∀i p,GH i=some p->ws i=some p):gU base U GH:=by
 obtain⟨pv,h1,h2⟩:=h;exact⟨pv,fun i B x hi=>h1 i B x (hs _ _ hi),fun i j B x C y yO hi hj=>h2 i j B x C y yO (hs _ _ hi) (hs _ _ hj)⟩
theorem gU.one(h:gU base U ws)(vV:base<=n){t:TypeId}(hb:U.heap[n]?=some (.cells c t (0,0)))(ht:bP t)(hw:t≠88)(hs:t≠9)(hf:Fr (one n) U U'):gU base U' ws:=by
 obtain⟨pv,h1,h2⟩:=h;refine⟨pv,fun i B x hi=>(h1 i B x hi).fr hf ?_ (fun k hk e=>?_),h2⟩
 ·rintro k rfl _;exact⟨vV,fun c f e=>by rw[hb]at e;cases e;exact hs rfl⟩
 ·cases(show k=n from e);exact(h1 i B x hi).j' hb ht hw hk
theorem gU.at(h:gU base U ws)(hi:ws i=some (B,x)):∃pv,aQ base U B pv x:=by
 obtain⟨pv,h1,_⟩:=h;exact⟨pv i,h1 i B x hi⟩
def Kept(U U':World):Prop:=∃S:Nat->Prop,Fr S U U'/\∀(n:Nat) (c:Array Value) (t:TypeId),U.heap[n]?=some (.cells c t (0,0))->bP t->t≠88->¬S n
theorem Kept.yU(h:Fr aU U U'):Kept U U':=⟨aU,h,fun _ _ _ _ _ _ h=>h⟩
abbrev cK:= @Kept.yU
theorem Kept.rows(h:Kept U U'){b k:Nat}{v:Value}(hr:OwnRows b e k U v xs)(ht:bP e)(hw:e≠88):OwnRows b e k U' v xs:=by
 obtain⟨S,hf,hs⟩:=h;refine hr.fr hf fun g hg=>?_;obtain⟨c,hc⟩:=hr.jR hg;exact hs g c e hc ht hw
theorem Kept.cR(h:Kept U U'){T:Nat}{g:Nat->eU}(hb:bL U T B g sv t):bL U' T B g sv t:=by
 obtain⟨S,hf,hs⟩:=h;obtain⟨c,hc,_⟩:=hb.cR;exact hb.fr hf (hs T c _ hc (by unfold bP;decide) ae)
theorem gU.act{f:FuncId}{args:Array Value}{R:Ending->Prop}(h:gU base U ws)(hf:Fr aU a U)(Dk:a.heap.size<=base){i B:Nat}{x x':bu}(hi:ws i=some (B,x))
  (hc:∀pv,aQ base U B pv x->Calls prog f args U fun e w'=>R e/\aL base U B pv x' w') :
  Calls prog f args U fun e w'=>R e/\gU base w' (fun j=>if j=i then some (B,x')else ws j)/\Fr aU a w'/\Kept U w':=by
 obtain⟨pv,h1,h2⟩:=h;have g:=h1 i B x hi;refine(hc (pv i) g).mono fun e w' hh=>⟨hh.1,?_,hh.2.frame g hf Dk,?_⟩
 ·obtain⟨s4,g1,g2,g3⟩:=hh.2;refine⟨fun j=>if j=i then s4 else pv j,fun j C y hj=>?_,fun j k C y D z xC hj hk q hq pZ=>?_⟩
  ·by_cases e:j=i
   ·simp only[aq e,bw,cu]at hj ⊢;obtain⟨rfl,rfl⟩:=hj;exact g1
   ·simp only[aj e]at hj ⊢;exact(h1 j C y hj).fr g2 g.off (fun k hk=>h2 j i C y B x e hj hi k hk)
  ·by_cases e:j=i
   ·have e':¬k=i:=fun e'=>xC (e.trans e'.symm);simp only[aq e,aj e',bw,cu]at hj hk hq pZ;obtain⟨rfl,rfl⟩:=hj;rcases g3 q hq with r|r
    ·exact h2 k i D z B x e' hk hi q pZ r
    ·have:=(h1 k D z hk).fy pZ;omega
   ·by_cases e':k=i
    ·simp only[aq e',aj e,bw,cu]at hj hk hq pZ;obtain⟨rfl,rfl⟩:=hk;rcases g3 q pZ with r|r
     ·exact h2 j i C y B x e hj hi q hq r
     ·have:=(h1 j C y hj).fy hq;omega
    ·simp only[aj e',aj e]at hj hk hq pZ;exact h2 j k C y D z xC hj hk q hq pZ
 ·obtain⟨s4,g1,g2,g3⟩:=hh.2;exact⟨_,g2,fun n c t hn ht hw=>g.j' hn ht hw⟩
theorem gU.add(h:gU base U ws)(hf:Fr aU U U'){C:Nat}{qv:Nat->bh}{y:bu}(hc:aQ base U' C qv y)(hn:∀j,dJ C qv j->U.heap.size<=j):gU base U' (fun j=>if j=i then some (C,y)else ws j):=by
 obtain⟨pv,h1,h2⟩:=h;refine⟨fun j=>if j=i then qv else pv j,fun j D z hj=>?_,fun j k D z E z' xC hj hk q hq pZ=>?_⟩
 ·by_cases e:j=i
  ·simp only[aq e,bw,cu]at hj ⊢;obtain⟨rfl,rfl⟩:=hj;exact hc
  ·simp only[aj e]at hj ⊢;exact(h1 j D z hj).dv hf
 ·by_cases e:j=i
  ·have e':¬k=i:=fun e'=>xC (e.trans e'.symm);simp only[aq e,aj e',bw,cu]at hj hk hq pZ;obtain⟨rfl,rfl⟩:=hj;have a1:=hn q hq;have a2:=(h1 k E z' hk).fy pZ;omega
  ·by_cases e':k=i
   ·simp only[aq e',aj e,bw,cu]at hj hk hq pZ;obtain⟨rfl,rfl⟩:=hk;have a1:=hn q pZ;have a2:=(h1 j D z hj).fy hq;omega
   ·simp only[aj e',aj e]at hj hk hq pZ;exact h2 j k D z E z' xC hj hk q hq pZ
end
section
variable {a U U' : World} {B C : Nat} {pv qv : Nat → bh} {x x' y : bu}
end
theorem fG.my(h:fG x):∀i,i<4->(x.part i).bC.length<68719476736/\(x.part i).waits.length<68719476736/\(x.part i).book.length<1000000/\(x.part i).cO.length<=1000000:=fun i _=>by
 obtain⟨l1,l2,l3,l4⟩:=(h.ok.part i).my;exact⟨ab,ab,ab,ab⟩
def ll(b:Bool)(w:World)(p:Addr)(v:Value):World:=if b then w.setCell p v else w
theorem iw{a:World}(h:Fr (one B) a w)(b:Bool)(k:Nat)(v:Value):Fr (one B) a (ll b w ⟨B,k,none⟩ v):=by
 cases b
 ·exact h
 ·exact h.setCell (p:=⟨B,k,none⟩) (fun _=>rfl) v
theorem ix{t:TypeId}{f:Nat×Nat}(h:w.heap[B]?=some (.cells cs.toArray t f))(b:Bool)(k:Nat){old:Value}(hk:cs[k]?=some old)(v:Value) :
  (ll b w ⟨B,k,none⟩ v).heap[B]?=some (.cells (cs.set k (if b then v else old)).toArray t f):=by
 cases b
 ·have e:cs.set k old=cs:=by
   apply List.ext_getElem?;intro i;by_cases hi:i=k
   ·subst hi;rw[List.getElem?_set_self (List.getElem?_eq_some_iff.1 hk).1,hk]
   ·rw[List.getElem?_set_ne (Ne.symm hi)]
  show w.heap[B]?=some (.cells (cs.set k old).toArray t f);rw[e,h]
 ·show(w.setCell ⟨B,k,none⟩ v).heap[B]?=some (.cells (cs.set k v).toArray t f);rw[ba h k v,List.setIfInBounds_toArray]
def ln(b0 b1 b2:Bool)(v q:bh):bh :=
 ⟨if b0 then q.b else v.b,if b0 then q.gv else v.gv,if b0 then q.wv else v.wv,if b1 then q.k else v.k,if b1 then q.kv else v.kv,if b2 then q.cv else v.cv⟩
theorem pb{b0 b1 b2:Bool}{v:bh}{k:Nat}(h:(ln b0 b1 b2 v q).eT k):v.eT k\/q.eT k:=by
 rcases h with h|h|h
 ·cases b0
  ·exact Or.inl (Or.inl h)
  ·exact Or.inr (Or.inl h)
 ·cases b1
  ·exact Or.inl (Or.inr (Or.inl h))
  ·exact Or.inr (Or.inr (Or.inl h))
 ·cases b2
  ·exact Or.inl (Or.inr (Or.inr h))
  ·exact Or.inr (Or.inr (Or.inr h))
theorem cS.take{v:bh}{P F:cy}(h:cS base w v P)(g:cS base w q F)(b0 b1 b2:Bool) :
  cS base w (ln b0 b1 b2 v q) ⟨if b0 then F.bC else P.bC,if b0 then F.waits else P.waits,if b1 then F.book else P.book,if b2 then F.cO else P.cO⟩ :=
 ⟨by cases b0;exact h.lZ;exact g.lZ,by cases b1;exact h.book;exact g.book,by cases b2;exact h.cO;exact g.cO⟩
def qf(b0 b1 b2 b3:Bool)(W:World)(B i:Nat)(q:bh)(n:Int):World :=
 ll b3 (ll b2 (ll b1 (ll b0 W ⟨B,i*3,none⟩ (.pointer (some ⟨q.b,0,none⟩))) ⟨B,i*3+1,none⟩ (.pointer (some ⟨q.k,0,none⟩))) ⟨B,i*3+2,none⟩ q.cv) ⟨B,12,none⟩ (.int .i64 n)
theorem q6{base:Nat}{w W:World}{B N:Nat}{pv qc:Nat->bh}{x f:bu}(h:aQ base w B pv x)(hW:Fr aU w W)(hc:aQ base W N qc f)(hn:∀k,dJ N qc k->w.heap.size<=k){part:Int}{i:Nat}(hi:i<4)(hp:part=(i:Int)){c:Nat}{b0 b1 b2 b3:Bool}
  (h0:c.testBit 0=b0)(h1:c.testBit 1=b1)(h2:c.testBit 2=b2)(h3:c.testBit 3=b3):aL base w B pv (dH x f part c) (qf b0 b1 b2 b3 W B i (qc i) f.now):=by
 have hB:=h.dv hW;have dU:Fr (one B) W (qf b0 b1 b2 b3 W B i (qc i) f.now):=iw (iw (iw (iw (Fr.refl _ _) _ _ _) _ _ _) _ _ _) _ _ _;have xi:part.toNat=i:=by rw[hp];simp
 have hx:dH x f part c={part:=fun j=>if j=i then⟨if b0 then(f.part j).bC else(x.part j).bC,if b0 then(f.part j).waits else(x.part j).waits,if b1 then(f.part j).book else(x.part j).book,if b2 then(f.part j).cO else(x.part j).cO⟩else x.part j,now:=if b3 then f.now else x.now}:=by
  rw[qB ab ab,xi];unfold fP;rw[h0,h1,h2,h3]
 have sa:∀j k,j<4->(pv j).eT k->k<w.heap.size:=fun j k hj hk=>h.fy (Or.inr ⟨j,hj,hk⟩);have C4:∀k,(qc i).eT k->w.heap.size<=k:=fun k hk=>hn k (Or.inr ⟨i,hi,hk⟩);have qg:∀j k,j<4->(iV pv i (ln b0 b1 b2 (pv i) (qc i)) j).eT k->(pv j).eT k\/(j=i/\w.heap.size<=k):=by
  intro j k hj hk;by_cases w_:j=i
  ·subst w_;rw[gG]at hk;rcases pb hk with e|e
   ·exact Or.inl e
   ·exact Or.inr ⟨rfl,C4 k e⟩
  ·rw[fg pv _ w_]at hk;exact Or.inl hk
 rw[hx];refine⟨iV pv i (ln b0 b1 b2 (pv i) (qc i)),⟨h.low,?_,fun j hj=>?_,fun j l hj hl BX k J6 FF=>?_⟩,?_,?_⟩
 ·obtain⟨c0,c1,c2⟩:=gH pv x.now hi;have e0:=ix hB.cR b0 (i*3) c0 (.pointer (some ⟨(qc i).b,0,none⟩));have e1:=ix e0 b1 (i*3+1) (old:=.pointer (some ⟨(pv i).k,0,none⟩)) (by rw[List.getElem?_set_ne ab];exact c1) (.pointer (some ⟨(qc i).k,0,none⟩));have e2:=ix e1 b2 (i*3+2) (old:=(pv i).cv) (by rw[List.getElem?_set_ne ab,List.getElem?_set_ne ab];exact c2) (qc i).cv
  have e3:=ix e2 b3 12 (old:=.int .i64 x.now) (by rw[List.getElem?_set_ne ab,List.getElem?_set_ne ab,List.getElem?_set_ne ab];exact oB pv x.now) (.int .i64 f.now);unfold qf;rw[e3]
  have s1:(((ec pv x.now).set (i*3) (if b0=true then .pointer (some ⟨(qc i).b,0,none⟩)else .pointer (some ⟨(pv i).b,0,none⟩))).set (i*3+1) (if b1=true then .pointer (some ⟨(qc i).k,0,none⟩)else .pointer (some ⟨(pv i).k,0,none⟩))).set (i*3+2) (if b2=true then(qc i).cv else(pv i).cv)=ec (iV pv i (ln b0 b1 b2 (pv i) (qc i))) x.now:=by
   rw[<-oA pv x.now hi];unfold qF ln;cases b0<;>cases b1<;>rfl
  rw[s1];cases b3
  ·rw[aj ae,gT];rfl
  ·rw[aq rfl,gT];rfl
 ·by_cases w_:j=i
  ·subst w_;rw[gG];show cS base _ _ (if j=j then _ else _);rw[aq rfl];have J7:¬(qc j).eT B:=fun e=>by
    have a1:=C4 B e;have a2:=h.lt;omega
   exact((hB.part j hj).fr dU hB.s5 (fun k hk e=>hB.j9 hj (by have e':k=B:=e;rw[<-e'];exact hk))).take ((hc.part j hj).fr dU hB.s5 (fun k hk e=>J7 (by have e':k=B:=e;rw[<-e'];exact hk))) b0 b1 b2
  ·rw[fg pv _ w_];show cS base _ _ (if j=i then _ else _);rw[aj w_];exact(hB.part j hj).fr dU hB.s5 (fun k hk e=>hB.j9 hj (by have e':k=B:=e;rw[<-e'];exact hk))
 ·rcases qg j k hj J6 with e|⟨e,he⟩
  ·rcases qg l k hl FF with g|⟨g,hg⟩
   ·exact h.apart j l hj hl BX k e g
   ·have:=sa j k hj e;omega
  ·rcases qg l k hl FF with g|⟨g,hg⟩
   ·have:=sa l k hl g;omega
   ·exact BX (e.trans g.symm)
 ·exact(hW.mono (T:=dJ B pv) (fun _ _ h=>absurd h (fun h=>h))).step dU (fun k _ e=>Or.inl e)
 ·rintro k(rfl|⟨j,hj,hk⟩)
  ·exact Or.inl (Or.inl rfl)
  ·rcases qg j k hj hk with e|⟨_,e⟩
   ·exact Or.inl (Or.inr ⟨j,hj,e⟩)
   ·exact Or.inr e
structure bW (base:Nat) (U:World) (v:dK×List dP) (o:df):Prop where
 fit:dL U v.1 v.2
 is:v.1.cH v.2=o
 own:OwnRows base 65 2 U v.1.ak.bo (v.2.map dP.cells)
def nz(x:sU×(dK×List dP)):List Value:=.int .i64 x.1.tab :: (x.2.1.cells++(eL x.1.cP++[.int .i64 x.1.dZ,.int .i64 x.1.fin]))
def eQ(base:Nat)(U:World)(sv:Value)(l:List sU):Prop:=∃es:List (sU×(dK×List dP)),es.map (·.1)=l/\OwnRows base 80 28 U sv (es.map nz)/\∀x∈es,bW base U x.2 x.1.op
def ez(xw:Option (Nat×bu))(B:Nat)(sb:Nat->Nat)(t:cX):Nat->Option (Nat×bu):=fun i=>if i=6 then some (B,t.w)else if i=7 then xw else if i<6/\((t.tab i).does=2\/(t.tab i).does=3)then some (sb i,(t.tab i).seen)else none
theorem oD(hw:t'.w=t.w)(h:∀n,n<6->((t'.tab n).does=2\/(t'.tab n).does=3)->((t.tab n).does=2\/(t.tab n).does=3)/\(t'.tab n).seen=(t.tab n).seen):∀j p,ez xw B sb t' j=some p->ez xw B sb t j=some p:=by
 intro j p hp;unfold ez at hp ⊢;by_cases e6:j=6
 ·rw[aq e6]at hp ⊢;rw[<-hw];exact hp
 ·rw[aj e6]at hp ⊢;by_cases e7:j=7
  ·rw[aq e7]at hp ⊢;exact hp
  ·rw[aj e7]at hp ⊢;split at hp
   ·rename_i hc;obtain⟨q1,q2⟩:=h j hc.1 hc.2;rw[aq ⟨hc.1,q1⟩, <-q2];exact hp
   ·cases hp
theorem tq(hw:t'.w=t.w)(i:Nat)(ht:∀n,n≠i->t'.tab n=t.tab n)(h2:(t'.tab i).does≠2)(h3:(t'.tab i).does≠3):∀j p,ez xw B sb t' j=some p->ez xw B sb t j=some p :=
 oD hw fun n _ hd=>by
  by_cases e:n=i
  ·subst e;exact absurd hd (fun h=>h.elim h2 h3)
  ·rw[ht n e]at hd ⊢;exact⟨hd,rfl⟩
structure aI (xw:Option (Nat×bu)) (a U:World) (T:Nat) (t:cX):Prop where
 ex:∃B g sv sb,bL U T B g sv t/\gU a.heap.size U (ez xw B sb t)/\eQ a.heap.size U sv t.cI/\∀n,n<6->((t.tab n).does≠0->bW a.heap.size U ((g n).o,(g n).hs) (t.tab n).op)/\((t.tab n).does=2\/(t.tab n).does=3->(g n).sp=.pointer (some ⟨sb n,0,none⟩))
 low:a.heap.size<=T
 fr:Fr aU a U
structure cJ (k:Int) (t:cX):Prop where
 steps:0<=t.steps/\t.steps<=k
 num:∀p i,0<=t.num p i/\t.num p i<=k
 fails:∀n,(t.tab n).fails<=3
 does:∀n,(t.tab n).does<=3
 inv:fG t.w
 seen:∀n,(t.tab n).does=2\/(t.tab n).does=3->fG (t.tab n).seen
 ops:∀n,(t.tab n).does≠0->(t.tab n).op.user.size<=5000/\(t.tab n).op.pass.size<=5000/\(t.tab n).op.path.size<=5000
section
variable {xw : Option (Nat × bu)} {base : Nat} {a U U' : World} {T : Nat} {t : cX}
def bS(U U':World):Prop:=∃S:Nat->Prop,Fr S U U'/\∀(n:Nat) (c:Array Value) (e:TypeId),U.heap[n]?=some (.cells c e (0,0))->(bP e/\e≠88)/\e≠80/\e≠72->¬S n
theorem bS.yU(h:Fr aU U U'):bS U U':=⟨aU,h,fun _ _ _ _ _ h=>h⟩
abbrev a_:= @bS.yU
theorem bS.refl(U:World):bS U U:=a_ (Fr.refl _ _)
theorem bS.oF(h:Kept U U'):bS U U':=by
 obtain⟨S,hf,hs⟩:=h;exact⟨S,hf,fun n c e hn he=>hs n c e hn he.1.1 he.1.2⟩
theorem bS.block(h:bS U U')(hn:U.heap[n]?=some (.cells c e (0,0)))(he:(bP e/\e≠88)/\e≠80/\e≠72):U'.heap[n]?=some (.cells c e (0,0)):=by
 obtain⟨S,hf,hs⟩:=h;exact hf.keep hn (hs n c e hn he)
theorem bS.step{Z:Nat->Prop}(h:bS U V)(g:Fr Z V U')(hz:∀(n:Nat) (c:Array Value) (e:TypeId),n<U.heap.size->V.heap[n]?=some (.cells c e (0,0))->(bP e/\e≠88)/\e≠80/\e≠72->¬Z n):bS U U':=by
 obtain⟨S,hf,hs⟩:=h;refine⟨fun n=>S n\/Z n,(hf.mono fun _ _ h=>Or.inl h).trans (g.mono fun _ _ h=>Or.inr h),?_⟩;rintro n c e hn he(q|q)
 ·exact hs n c e hn he q
 ·exact hz n c e (aJ hn) (hf.keep hn (hs n c e hn he)) he q
theorem bS.trans(h:bS U V)(g:bS V U'):bS U U':=by
 obtain⟨Z,hg,hz⟩:=g;exact h.step hg fun n c e _ hn he=>hz n c e hn he
theorem bS.tabs(h:bS U V)(hT:V.heap[T]?=some (.cells c 72 (0,0)))(g:Fr (one T) V U'):bS U U':=h.step g fun n c' e _ hn he q=>by
 cases(show n=T from q);rw[hT]at hn;cases hn;exact he.2.2 rfl
theorem bS.new(h:bS U V)(g:Fr (one m) V U')(hm:U.heap.size<=m):bS U U':=h.step g fun n c' e hl _ _ q=>by
 have:n=m:=q;omega
theorem fi:(bP 51/\51≠88)/\51≠80/\51≠72:=by unfold bP;decide
theorem ka:bP 65/\65≠88:=by unfold bP;decide
theorem fR:bP 80/\80≠88:=by unfold bP;decide
theorem eX:bP 72/\72≠88:=by unfold bP;decide
theorem bW.rows(h:bW base U v o)(g:OwnRows base 65 2 U' v.1.ak.bo (v.2.map dP.cells)):bW base U' v o:=⟨{h.fit with bo:=g.at},h.is,g⟩
theorem bW.kept(h:bW base U v o)(hk:Kept U U'):bW base U' v o:=h.rows (hk.rows h.own ka.1 ka.2)
theorem bW.one(h:bW base U v o)(hb:U.heap[n]?=some (.cells c e (0,0)))(he:e≠65)(hf:Fr (one n) U U'):bW base U' v o :=
 h.rows (h.own.fr hf fun g hg q=>h.own.not hb he (by rw[hg];exact ay some q))
theorem eQ.kept(h:eQ base U sv l)(hk:Kept U U'):eQ base U' sv l:=by
 obtain⟨es,h1,h2,h3⟩:=h;exact⟨es,h1,hk.rows h2 fR.1 fR.2,fun x hx=>(h3 x hx).kept hk⟩
theorem eQ.one(h:eQ base U sv l)(hb:U.heap[n]?=some (.cells c e (0,0)))(he:e≠65)(Jt:e≠80)(hf:Fr (one n) U U'):eQ base U' sv l:=by
 obtain⟨es,h1,h2,h3⟩:=h;exact⟨es,h1,h2.fr hf fun g hg q=>h2.not hb Jt (by rw[hg];exact ay some q),fun x hx=>(h3 x hx).one hb he hf⟩
theorem aI.dv(h:aI xw a U T t)(hf:Fr aU U U'):aI xw a U' T t:=by
 obtain⟨B,g,sv,sb,h1,h2,h3,h4⟩:=h.ex;exact⟨⟨B,g,sv,sb,h1.fr hf (fun h=>h),h2.dv hf,h3.kept (cK hf),fun n hn=>⟨fun hd=>((h4 n hn).1 hd).kept (cK hf),(h4 n hn).2⟩⟩,h.low,h.fr.trans hf⟩
theorem aI.put{B:Nat}{g:Nat->eU}{sv:Value}{sb:Nat->Nat}{t':cX}{g':Nat->eU}(h1:bL U T B g sv t)(h2:gU a.heap.size U (ez xw B sb t))(h3:eQ a.heap.size U sv t.cI)
  (h4:∀n,n<6->((t.tab n).does≠0->bW a.heap.size U ((g n).o,(g n).hs) (t.tab n).op)/\((t.tab n).does=2\/(t.tab n).does=3->(g n).sp=.pointer (some ⟨sb n,0,none⟩)))(g_:a.heap.size<=T)(dU:Fr aU a U)
  (hb:bL U' T B g' sv t'/\Fr (one T) U U')(hs:t'.cI=t.cI)(hw:∀i p,ez xw B sb t' i=some p->ez xw B sb t i=some p)
  (yV:∀n,n<6->((t'.tab n).does≠0->((g' n).o=(g n).o/\(g' n).hs=(g n).hs/\(t'.tab n).op=(t.tab n).op/\(t.tab n).does≠0)\/bW a.heap.size U ((g' n).o,(g' n).hs) (t'.tab n).op)/\((t'.tab n).does=2\/(t'.tab n).does=3->(g' n).sp=.pointer (some ⟨sb n,0,none⟩))):aI xw a U' T t':=by
 obtain⟨hb,hf⟩:=hb;obtain⟨c,hc,_⟩:=h1.cR;refine⟨⟨B,g',sv,sb,hb,(h2.one g_ hc eX.1 eX.2 ae hf).sub hw,by rw[hs];exact h3.one hc ae ae hf,fun n hn=>⟨fun hd=>?_,(yV n hn).2⟩⟩,g_,dU.step hf fun k hk e=>?_⟩
 ·rcases(yV n hn).1 hd with ⟨e1,e2,e3,e4⟩|q
  ·rw[e1,e2,e3];exact((h4 n hn).1 e4).one hc ae hf
  ·exact q.one hc ae hf
 ·have:k=T:=e;omega
theorem aI.aside(h:aI xw a U T t)(hn:a.heap.size<=n)(hb:U.heap[n]?=some (.cells c e (0,0)))(he:bP e/\e≠88)(h1:e≠65)(h2:e≠80)(h3:e≠72)(h4:e≠9)(hf:Fr (one n) U U'):aI xw a U' T t:=by
 obtain⟨B,g,sv,sb,g1,g2,g3,g4⟩:=h.ex;obtain⟨d,hd,_⟩:=g1.cR;have hT:¬(one n) T:=fun e'=>by
  cases(show T=n from e');rw[hd]at hb;cases hb;exact h3 rfl
 refine⟨⟨B,g,sv,sb,g1.fr hf hT,g2.one hn hb he.1 he.2 h4 hf,g3.one hb h1 h2 hf,fun m hm=>⟨fun hd=>((g4 m hm).1 hd).one hb h1 hf,(g4 m hm).2⟩⟩,h.low,h.fr.step hf fun k hk e'=>?_⟩;have:k=n:=e';omega
end
theorem q7{D:Nat}{pv qd:Nat->bh}{f:bu}(h:aQ base w B pv x)(hF:aQ base w D qd f)(hs:fG f)(part:Int){c:Nat}(hc:c=0\/c=1\/c=4\/c=7\/c=8\/c=10) :
  Calls prog 47 #[.pointer (some ⟨B,0,none⟩),.pointer (some ⟨D,0,none⟩),.int .i64 part,.int .i64 c] w fun e w'=>e=.returned (.tuple #[])/\aL base w B pv (dH x f part c) w':=by
 have rz:=O (iX base w D qd f hF hs.my);have HH:=O h;have Au:=h.lt;have Cp:=O Au;have HC:=O hc;clear h hF hs hc;by_cases h0:part<0
 ·have h1:¬(0:Int)<=part:=ab;have HX:=O (show dH x f part c=x by unfold dH;rw[aj ab]);clear rz HC Au;go_enter func47,ntmps47;go_wp2
  try simp only[Exit.inBlock,Exit.then]
  refine bodyPost_ret (results_none rfl _ _ _) rfl ?_;rw[HX.o];exact⟨rfl,aL.same HH.o (Fr.refl _ _)⟩
 by_cases h4:4<=part
 ·have h1:(0:Int)<=part:=ab;have h5:¬part<4:=ab;have HX:=O (show dH x f part c=x by unfold dH;rw[aj ab]);clear rz HC Au;go_enter func47,ntmps47;go_wp2
  try simp only[Exit.inBlock,Exit.then]
  refine bodyPost_ret (results_none rfl _ _ _) rfl ?_;rw[HX.o];exact⟨rfl,aL.same HH.o (Fr.refl _ _)⟩
 obtain⟨i,hi,Dx⟩:∃i:Nat,part=(i:Int)/\i<4:=⟨part.toNat,ab,ab⟩;subst hi;have JM:(i:Int)<4:=ab;have qa:¬(i:Int)<0:=ab;have Ek:¬(4:Int)<=(i:Int):=ab;have Bz:(0:Int)<=(i:Int):=ab;have Aw:=O Dx;clear h0 h4;go_enter func47,ntmps47;go_wp2_with fail
 refine rz.o.mono ?_;rintro e u⟨N,qc,rfl,Hj,hu,hn⟩;have Hl:=O Hj;have HN:=O hn;have HU:=O (show∀n,Fr aU u (u.drewN n)from fun n=>Fr.drewN n (Fr.refl aU u));have Hm:=O hu;clear Hj hu hn rz;go_wp2_with fail
 go_quiet (fail);have xy:=HU.o nq;generalize u.drewN nq=u1 at xy ⊢;have uN:=O (Hl.o.dv xy);have vT:=O (Hm.o.trans xy);have J8:¬B=N:=by have a1:=HN.o N (Or.inl rfl);omega
 have K_:¬N=B:=fun e=>J8 e.symm;have rC:=fun(c:Nat) (b0 b1 b2 b3:Bool) (h0:c.testBit 0=b0) (h1:c.testBit 1=b1) (h2:c.testBit 2=b2) (h3:c.testBit 3=b3)=>q6 HH.o vT.o uN.o HN.o Aw.o (part:=(i:Int)) rfl h0 h1 h2 h3;unfold qf at rC;have hN:=uN.o.partAt Aw.o;have n0:=hN.cell0;have n1:=hN.xr;have n2:=hN.xt;have n3:u1.cell? ⟨N,12,none⟩=some (.int .i64 f.now):=by
  have j:=uN.o.cR;simp only[World.cell?,j];rfl
 have hB:=(HH.o.dv vT.o).partAt Aw.o;have b0:=hB.cell0;have b1:=hB.xr;have b2:=hB.xt;have b3:u1.cell? ⟨B,12,none⟩=some (.int .i64 x.now):=by
  have j:=(HH.o.dv vT.o).cR;simp only[World.cell?,j];rfl
 have f0:=hB.free (i*3);have f1:=hB.free (i*3+1);have f2:=hB.free (i*3+2);have f3:=hB.free 12;have J9:B<u1.heap.size:=aJ hB.cR;have J_:N<u1.heap.size:=aJ hN.cR;obtain⟨ca,ck,xD⟩:=(uN.o.part i Aw.o).cO.form;rw[ag]at xD;rw[xD]at n2 rC;have AA:=O rC;clear rC;obtain⟨cb,cl,FG⟩:=((HH.o.dv vT.o).part i Aw.o).cO.form;rw[ag]at FG;rw[FG]at b2;clear hN hB xy uN vT HU Hm HN Hl HH xD FG Au
 rcases HC.o with rfl|rfl|rfl|rfl|rfl|rfl
 ·clear HC;go_wp2_with fail
  go_end0;exact⟨rfl,AA.o _ false false false false ae ae ae ae⟩
 ·clear HC;go_wp2_with fail
  go_end0;exact⟨rfl,AA.o _ true false false false ae ae ae ae⟩
 ·clear HC;go_wp2_with fail
  go_end0;exact⟨rfl,AA.o _ false false true false ae ae ae ae⟩
 ·clear HC;go_wp2_with fail
  go_end0;exact⟨rfl,AA.o _ true true true false ae ae ae ae⟩
 ·clear HC;go_wp2_with fail
  go_end0;exact⟨rfl,AA.o _ false false false true ae ae ae ae⟩
 ·clear HC;go_wp2_with fail
  go_end0;exact⟨rfl,AA.o _ false true false true ae ae ae ae⟩
theorem cJ.new:cJ 0 il:=⟨⟨bV _,bV _⟩,fun _ _=>⟨bV _,bV _⟩,fun _=>az _,fun _=>az _,fG.new,fun _ h=>by simp[il,cF]at h,fun _ h=>by simp[il,cF]at h⟩
theorem cJ.mono{j:Int}(h:cJ k t)(hk:k<=j):cJ j t:={h with steps:=⟨h.steps.1,Int.le_trans h.steps.2 hk⟩,num:=fun p i=>⟨(h.num p i).1,Int.le_trans (h.num p i).2 hk⟩}
theorem qJ{f:Nat->Nat->Int}(h:∀p i,0<=f p i/\f p i<=k)(p i:Nat):0<=kY o f p i/\kY o f p i<=k+1:=by
 unfold kY;have:=h p i;split<;>omega
theorem cJ.ends(h:cJ k t)(n:Nat)(r:dG):cJ k (dV t n r):=by
 unfold dV;refine⟨h.steps,h.num,fun m=>?_,fun m=>?_,h.inv,fun m=>?_,fun m=>?_⟩
 ·show(if m=n then cF else t.tab m).fails<=3;split
  ·exact az _
  ·exact h.fails m
 ·show(if m=n then cF else t.tab m).does<=3;split
  ·exact az _
  ·exact h.does m
 ·show(if m=n then cF else t.tab m).does=2\/(if m=n then cF else t.tab m).does=3->fG (if m=n then cF else t.tab m).seen;split
  ·intro e;simp[cF]at e
  ·exact h.seen m
 ·show(if m=n then cF else t.tab m).does≠0->_;split
  ·intro e;exact absurd rfl e
  ·rename_i hm;simp only[aj hm];exact h.ops m
theorem cJ.put(h:cJ k t)(n:Nat)(x:gM)(hf:x.fails<=3)(hd:x.does<=3)(hs:x.does=2\/x.does=3->fG x.seen)(ho:x.does≠0->x.op.user.size<=5000/\x.op.pass.size<=5000/\x.op.path.size<=5000):cJ k (t.put n x):=by
 refine⟨h.steps,h.num,fun m=>?_,fun m=>?_,h.inv,fun m=>?_,fun m=>?_⟩
 ·show(if m=n then x else t.tab m).fails<=3;split
  ·exact hf
  ·exact h.fails m
 ·show(if m=n then x else t.tab m).does<=3;split
  ·exact hd
  ·exact h.does m
 ·show(if m=n then x else t.tab m).does=2\/(if m=n then x else t.tab m).does=3->fG (if m=n then x else t.tab m).seen;split
  ·exact hs
  ·exact h.seen m
 ·show(if m=n then x else t.tab m).does≠0->(if m=n then x else t.tab m).op.user.size<=5000/\(if m=n then x else t.tab m).op.pass.size<=5000/\(if m=n then x else t.tab m).op.path.size<=5000;split
  ·exact ho
  ·exact h.ops m
theorem cJ.tick(h:cJ k t):cJ (k+1) {t with steps:=t.steps+1}:=by
 have g:=h.mono (show k<=k+1 from ab);exact{g with steps:=⟨by have:=h.steps.1;show 0<=t.steps+1;omega,by have:=h.steps.2;show t.steps+1<=k+1;omega⟩}
theorem cJ.dZ(h:cJ k t)(n:Int)(o:df)(ho:o.user.size<=5000/\o.pass.size<=5000/\o.path.size<=5000):cJ (k+1) (kF t n o).1:=by
 have g:=h.mono (show k<=k+1 from ab);unfold kF;split
 ·split
  ·exact(h.put n.toNat {cF with does:=1,op:=o,dZ:=t.steps+1} (az _) (show 1<=3 from ae) (fun e=>by simp at e) (fun _=>ho)).tick
  ·exact g
 ·exact g
theorem cJ.fail(h:cJ k t)(n:Nat)(r:dG):cJ k (dV (t.put n {t.tab n with fails:=m}) n r):=by
 have e:dV (t.put n {t.tab n with fails:=m}) n r=dV t n r:=by
  unfold dV cX.put;simp only[bD]
  congr 1
  funext i
  split
  ·rfl
  ·rfl
 rw[e];exact h.ends n r
theorem cJ.yW(h:cJ k t)(n:Nat)(hd:(t.tab n).does=3):cJ (k+1) (cV t n).1:=by
 have g:=h.mono (show k<=k+1 from ab);unfold cV;split
 ·refine cJ.ends ?_ n _;split
  ·exact{g with inv:=h.inv.take (h.seen n (Or.inr hd)) _ _,num:=qJ h.num}
  ·exact g
 ·split
  ·rename_i hf;exact g.put n _ hf (show 1<=3 from ae) (fun e=>by simp at e) (fun _=>h.ops n ab)
  ·exact g.fail n _
theorem cJ.stepT(h:cJ k t)(n:Nat)(h0:(t.tab n).does≠0):cJ (k+2) (stepT t n).1:=by
 unfold Go.Proofs.YtpkkncoddhkfkaaGreatDoor.stepT;split
 ·have q:=(h.put n {t.tab n with seen:=t.w,num:=t.num,does:=2} (h.fails n) (show 2<=3 from ae) (fun _=>h.inv) (fun _=>h.ops n h0)).tick;exact q.mono ab
 ·split
  ·rename_i h2;have q:=(h.put n {t.tab n with cP:=(fX (t.tab n).seen (t.tab n).op).2,seen:=(fX (t.tab n).seen (t.tab n).op).1,does:=3} (h.fails n) (show 3<=3 from ae) (fun _=>(h.seen n (Or.inl h2)).fX _ (h.ops n h0).1 (h.ops n h0).2.1 (h.ops n h0).2.2) (fun _=>h.ops n h0)).tick;exact q.mono ab
  ·have hd:(t.tab n).does=3:=by have:=h.does n;omega
   exact(h.tick.yW n hd).mono ab
theorem cJ.step(h:cJ k t)(n:Int):cJ (k+2) (dW t n).1:=by
 have g:=h.mono (show k<=k+2 from ab);unfold dW;split
 ·split
  ·exact g
  ·rename_i h0;exact h.stepT _ h0
 ·exact g
def Cr:dK:=⟨0,⟨0,⟨false,.empty,0⟩,⟨false,.empty,0⟩,.empty,.empty,.empty,.slice none 0 0,false,.empty⟩,false,.empty,.empty,.empty,.empty,0,false,0⟩
def zeroV:eU:=⟨Cr,[],.pointer none⟩
theorem wm(o:dK)(h:o.ak.bo.oneCell'=true):∀u∈o.cells,u.oneCell'=true:=by
 generalize hv:o.ak.bo.oneCell'=b at h;unfold dK.cells fe.cells;intro u hu;by_cases e:u=o.ak.bo
 ·rw[e,hv,h]
 ·simp only[cN,bz,aD,aZ,ct,e,false_or]at hu;rcases hu with rfl|rfl|rfl|rfl|rfl|rfl|rfl|rfl|rfl|rfl|rfl|rfl|rfl|rfl|rfl|rfl|rfl|rfl|rfl|rfl|rfl<;>rfl
theorem kj(x:gM)(v:eU)(h:v.o.ak.bo.oneCell'=true)(hp:v.sp.oneCell'=true):(dS x v).toArray.all (·.oneCell')=true :=
 all_oneCell_toArray (by
  have ho:=wm v.o h;intro u hu;unfold dS dh eL at hu;simp only[aD,aE,aZ,ct]at hu;rcases hu with rfl|hu|hu
  ·rfl
  ·exact ho u hu
  ·rcases hu with rfl|rfl|rfl|hu
   ·rfl
   ·rfl
   ·exact hp
   ·rcases hu with hu|hu
    ·rcases hu with rfl|rfl|rfl|rfl|rfl|rfl|rfl|rfl|rfl|rfl|rfl|rfl|rfl|rfl|rfl|rfl<;>rfl
    ·rcases hu with rfl|rfl|rfl<;>rfl)
section
variable {xw : Option (Nat × bu)} {a U U' : World} {T : Nat} {t : cX}
theorem qO(h:aI xw a U T t)(hi:fG t.w) :
  Calls prog 15 #[.pointer (some ⟨T,0,none⟩)] U (lf a.heap.size U t.w):=by
 obtain⟨B,g,sv,sb,h1,h2,h3,h4⟩:=h.ex;obtain⟨pv,hw⟩:=h2.at (i:=6) (B:=B) (x:=t.w) rfl;have HC:=O (iX _ _ _ _ _ hw hi.my);have c:=h1.main;clear h h1 h2 h3 h4 hw hi;go_enter func15,ntmps15;go_wp2_with fail
 refine HC.o.mono ?_;rintro e u hu;obtain⟨N,qv,rfl,hc⟩:=hu;have HH:=O hc;clear hc;go_wp2;go_ret;exact⟨N,qv,rfl,HH.o⟩
end
theorem Cd(w:World):∀k:Nat,k<4->(Instr.index 120 (.agg #[.string ⟨#[97,46,116,101,115,116]⟩,.string ⟨#[98,46,116,101,115,116]⟩,.string ⟨#[99,46,116,101,115,116]⟩,.string ⟨#[97,46,116,101,115,116]⟩]) (.int .i64 k)).run prog w=.ok (.string (eB k)) w
 |0,_=>af
 |1,_=>af
 |2,_=>af
 |3,_=>af
def tr(b:Nat)(v:Value)(r:aw)(U:World)(e:Ending)(w':World):Prop :=
 e=.returned v/\w'.heap[b]?=some (.cells #[.string ⟨r.toArray⟩] 61 (0,0))/\Fr (one b) U w'
theorem dF(U:World)(b bk:Nat)(c:Nat)(r:aw)(l:List ai)(hl:0<l.length)(Ej:l.length<1000)(hb:U.heap[b]?=some (.cells #[.string ⟨r.toArray⟩] 61 (0,0)))(hc:∀(j:Nat) x,l[j]?=some x->U.cell? ⟨bk,j,none⟩=some (.string x))(hne:bk≠b) :
  Calls prog 28 #[.pointer (some ⟨b,0,none⟩),.slice (some ⟨bk,0,none⟩) l.length c] U (tr b (.string (cQ l r).1) (cQ l r).2 U):=by
 have HP:=O (cG U b r l.length hl Ej hb);have HC:=O hc;have hk:=dQ hl r;have HK:=O (List.getElem?_eq_getElem hk);have HE:=O (show cQ l r=(l[(cY l.length r).1]'hk,(cY l.length r).2)by
  show(l.getD (cY l.length r).1 .empty,(cY l.length r).2)=_;rw[List.getD_eq_getElem?_getD,List.getElem?_eq_getElem hk];rfl)
 generalize l[(cY l.length r).1]'hk=x at *
 clear hb hc;go_enter func28,ntmps28;go_wp2_with fail
 refine HP.o.mono ?_;rintro e u⟨rfl,h1,h2⟩;have hx:u.cell? ⟨bk,(cY l.length r).1,none⟩=some (.string x):=ed (HC.o _ _ HK.o) h2 (fun e=>hne e);have H1:=O h1;have H2:=O h2;generalize (cY l.length r).1=k at *
 clear h1 h2 HP;go_wp2;go_ret;rw[HE.o];exact⟨rfl,H1.o,H2.o⟩
theorem nA(U:World)(b:Nat)(r:aw)(hb:U.heap[b]?=some (.cells #[.string ⟨r.toArray⟩] 61 (0,0))) :
  Calls prog 27 #[.pointer (some ⟨b,0,none⟩)] U (tr b (.agg #[.bool (et r).1.ao,.string (et r).1.host,.int .i64 (et r).1.port]) (et r).2 U):=by
 obtain⟨x1,dT⟩:∃x1,x1=U.alloc (.cells #[.bool false,.string ⟨#[]⟩,.int .i64 0] 26):=⟨_,rfl⟩;have dt:Fr aU U x1:=by rw[dT];exact(Fr.refl aU U).alloc _
 have kR:x1.heap[U.heap.size]?=some (.cells #[.bool false,.string ⟨#[]⟩,.int .i64 0] 26 (0,0)):=by rw[dT];exact aB _ _
 have HP:=O (cG x1 b r 4 ae ae (dt.keep hb (fun h=>h)));have HE:=O (show et r=(⟨decide ((cY 4 r).1<3),eB (cY 4 r).1,if(cY 4 r).1<3 then 443 else 80⟩,(cY 4 r).2)from rfl);have HX:=O dT;have HF:=O dt;have Ce:=aJ hb;have Dl:=O (show¬(one b) U.heap.size from fun e=>by have e':U.heap.size=b:=e;omega);have GI:=O kR;have xG:=dQ (n:=4) ae r;obtain⟨R,hR⟩:∃R,R=U.heap.size:=⟨_,rfl⟩;have HR:=O hR
 rw[<-hR]at GI Dl;clear dT dt kR hb Ce hR;go_enter func27,ntmps27;go_wp2_with fail
 rw[<-HX.o, <-HR.o];refine HP.o.mono ?_;rintro e u⟨rfl,h1,h2⟩;have H1:=O h1;have H2:=O h2;have HK:=O (h2.keep GI.o Dl.o);generalize (cY 4 r).2=r' at *
 generalize (cY 4 r).1=k at *
 clear h1 h2 HP;have x0:∀w:World,(Instr.index 120 (.agg #[.string ⟨#[97,46,116,101,115,116]⟩,.string ⟨#[98,46,116,101,115,116]⟩,.string ⟨#[99,46,116,101,115,116]⟩,.string ⟨#[97,46,116,101,115,116]⟩]) (.int .i64 k)).run prog w=.ok (.string (eB k)) w:=fun w=>Cd w k xG;have EZ:=O (aJ HK.o);have Ju:R≠u.heap.size:=fun e=>by have:=EZ.o;omega
 have GJ:=O (show(u.alloc (.cells #[.bool true,.string (eB k),.int .i64 443] 26)).heap[R]?=_ from((Fr.refl aU u).alloc _).keep HK.o (fun h=>h));have Di:=O (show(u.alloc (.cells #[.bool false,.string (eB 3),.int .i64 80] 26)).heap[R]?=_ from((Fr.refl aU u).alloc _).keep HK.o (fun h=>h));have Dm:=O (show U.heap.size<=u.heap.size from au HF.o.size H2.o.size);rcases(show k<3\/k=3 from ab)with hk|rfl
 ·have Cf:(k:Int)<3:=ab;have hd:decide ((k:Int)<3)=true:=aM Cf;go_wp2_with (first|((with_reducible refine dp ⟨none,.store 26 (.tmp 2) _,_,_,_,_⟩ ?_);go_must(refine wpList_store_row rfl 26 (.tmp 2) (.tmp 17) rfl R #[.bool true,.string (eB k),.int .i64 443] rfl rfl 26 #[.bool false,.string ⟨#[]⟩,.int .i64 0] GJ.o af rfl bN ?_))|fail)
  refine bodyPost_ret (results_cell_row bq _ _ R 26 #[.bool true,.string (eB k),.int .i64 443] (0,0) _ rfl (setRow_heap _ R _ _ _ _ GJ.o) underlying26 rfl af) rfl ?_;rw[HE.o]
  refine⟨by show Ending.returned (.agg #[.bool true,.string (eB k),.int .i64 443])=Ending.returned (.agg #[.bool (decide (k<3)),.string (eB k),.int .i64 (if k<3 then 443 else 80:Int)]);rw[aM hk,aq hk],?_,(((HF.o.se.trans H2.o).alloc _)).setRow (g:=R) (fun h=>absurd h (by rw[HR.o];omega)) _⟩;exact(setRow_other (fun e=>Dl.o e.symm) _).trans (((Fr.refl aU u).alloc _).keep H1.o (fun h=>h))
 ·have hd:decide (((3:Nat):Int)<3)=false:=rfl;have x3:∀w:World,(Instr.index 120 (.agg #[.string ⟨#[97,46,116,101,115,116]⟩,.string ⟨#[98,46,116,101,115,116]⟩,.string ⟨#[99,46,116,101,115,116]⟩,.string ⟨#[97,46,116,101,115,116]⟩]) (.int .i64 3)).run prog w=.ok (.string (eB 3)) w:=fun w=>Cd w 3 xG
  go_wp2_with (first|((with_reducible refine dp ⟨none,.store 26 (.tmp 2) _,_,_,_,_⟩ ?_);go_must(refine wpList_store_row rfl 26 (.tmp 2) (.tmp 17) rfl R #[.bool false,.string (eB 3),.int .i64 80] rfl rfl 26 #[.bool false,.string ⟨#[]⟩,.int .i64 0] Di.o af rfl bN ?_))|fail)
  refine bodyPost_ret (results_cell_row bq _ _ R 26 #[.bool false,.string (eB 3),.int .i64 80] (0,0) _ rfl (setRow_heap _ R _ _ _ _ Di.o) underlying26 rfl af) rfl ?_;rw[HE.o]
  refine⟨by show Ending.returned (.agg #[.bool false,.string (eB 3),.int .i64 80])=Ending.returned (.agg #[.bool (decide (3<3)),.string (eB 3),.int .i64 (if 3<3 then 443 else 80:Int)]);rw[aN (by decide:¬3<3),aj (by decide:¬3<3)],?_,(((HF.o.se.trans H2.o).alloc _)).setRow (g:=R) (fun h=>absurd h (by rw[HR.o];omega)) _⟩
  exact(setRow_other (fun e=>Dl.o e.symm) _).trans (((Fr.refl aU u).alloc _).keep H1.o (fun h=>h))
theorem fk{P:Program}{ops:Array Oper}{a:Act}{w:World}{K:Act->World->Prop}{Q:Exit->Act->World->Prop}{E:Prop}{op:Oper}(uu:op.guard=none)(ty:TypeId)(x y:Operand)(ho:op.op=.store ty x y)
  (b o:Nat)(cells:Array Value)(hx:a.eval x=.pointer (some ⟨b,o,none⟩))(hy:a.eval y=.agg cells)
  (ht:w.there b o cells.size)(hi:(P.info? ty).map (·.size)=some cells.size)(h1:cells.all (·.oneCell')=true)
  (h:K (a.put op.dst undef) (w.setCells b o cells.toList)):if Region.wanted op (yielded ops a.tmps)=true then Oper.wp P op a w K Q else E:=by
 have hw:Region.wanted op (yielded ops a.tmps)=true:=by simp[Region.wanted,uu]
 rw[aq hw];exact wp_store_mid ty x y ho b o cells hx hy ht hi h1 h
section
variable {xw : Option (Nat × bu)} {a U U' : World} {T : Nat} {t : cX}
def zq(o:dK)(hs:List dP)(a9:Option Addr)(c9:Nat)(t:cX)(T N:Nat)(V:World):Prop:=V.rangeAt N 0 [.int .i64 o.what,.int .i64 o.ak.part,.bool o.ak.bg.ao,.string o.ak.bg.host,.int .i64 o.ak.bg.port,.bool o.ak.o.ao,.string o.ak.o.host,.int .i64 o.ak.o.port,.string o.ak.path,.string o.ak.query,.string o.ak.method,.slice a9 hs.length c9,.bool o.ak.dB,.string o.ak.body,.bool o.proxy,.string o.text,.string o.user,.string o.pass,.string o.aW,.int .i64 o.cert,.bool o.all,.int .i64 o.n]/\V.cell? ⟨T,287,none⟩=some (.int .i64 (t.steps+1))
theorem cz.JP{k:Nat}{w':World}{v:Value}{S:Nat->Prop}(h:cz k w v xs)(hf:Fr S w w')(hn:xs≠ []->∀b,v.ownBlock=some b->¬S b):cz k w' v xs:=by
 by_cases e:xs=[]
 ·subst e;rcases h.2 with ⟨a,c,e1,_,e3⟩|⟨bk,o,c,e1,h1,h2,h3,h4⟩
  ·exact⟨h.1,Or.inl ⟨a,c,e1,rfl,e3⟩⟩
  ·exact⟨h.1,Or.inr ⟨bk,o,c,e1,h1,h2,bf h3 hf.size,fun j x hx=>by simp at hx⟩⟩
 ·exact h.fr hf (hn e)
theorem qb{N:Nat}(h:V.heap[N]?=some (.cells cs.toArray e (0,0))):V.rangeAt N 0 cs:=fun j v hv=>by
 rw[Nat.zero_add];simp only[World.cell?,h];simpa using hv
theorem wo{x1 W:World}{o:dK}{hs:List dP}{a9:Option Addr}{c9 i N:Nat}(hi:i<6)(wq:aI xw a W T {t with steps:=t.steps+1})(HO:dL x1 o hs)(JQ:N≠T)(hd:(t.tab i).does=0)
  (Cs:W.heap[N]?=some (.cells (dK.cells {o with ak:={o.ak with bo:=.slice a9 hs.length c9}}).toArray 35 (0,0)))(wu:OwnRows a.heap.size 65 2 W (.slice a9 hs.length c9) (hs.map dP.cells)) :
  zq o hs a9 c9 t T N W.drew/\W.drew.there T (17+i*45) 45/\zq o hs a9 c9 t T N (W.drew.setCells T (17+i*45) (dS {cF with does:=1,op:=o.cH hs,dZ:=t.steps+1} ⟨{o with ak:={o.ak with bo:=.slice a9 hs.length c9}},hs,.pointer none⟩))/\aI xw a (W.drew.setCells T (17+i*45) (dS {cF with does:=1,op:=o.cH hs,dZ:=t.steps+1} ⟨{o with ak:={o.ak with bo:=.slice a9 hs.length c9}},hs,.pointer none⟩)) T {(t.put i {cF with does:=1,op:=o.cH hs,dZ:=t.steps+1})with steps:=t.steps+1}/\bS W (W.drew.setCells T (17+i*45) (dS {cF with does:=1,op:=o.cH hs,dZ:=t.steps+1} ⟨{o with ak:={o.ak with bo:=.slice a9 hs.length c9}},hs,.pointer none⟩)):=by
 have zr:=wq.dv (Fr.drew (Fr.refl aU W));have Ct:=wu.fr (Fr.drew (Fr.refl aU W)) (fun _ _ h=>h);obtain⟨B2,g2,K7,K8,h1,h2,h3,h4⟩:=zr.ex;have c3:=h1.steps;have Cu:W.drew.heap[N]?=some (.cells (dK.cells {o with ak:={o.ak with bo:=.slice a9 hs.length c9}}).toArray 35 (0,0)):=Cs
 have q2:=h1.s9 hi {cF with does:=1,op:=o.cH hs,dZ:=t.steps+1} ⟨{o with ak:={o.ak with bo:=.slice a9 hs.length c9}},hs,.pointer none⟩;refine⟨?_,h1.there ab,?_,?_,?_⟩
 ·exact⟨qb (cs:=dK.cells {o with ak:={o.ak with bo:=.slice a9 hs.length c9}}) Cu,c3⟩
 ·exact⟨qb (cs:=dK.cells {o with ak:={o.ak with bo:=.slice a9 hs.length c9}}) (q2.2.keep Cu (fun e=>JQ e)),q2.1.steps⟩
 ·exact aI.put (t':={(t.put i {cF with does:=1,op:=o.cH hs,dZ:=t.steps+1})with steps:=t.steps+1}) h1 h2 h3 h4 zr.low zr.fr q2 rfl (tq (t':={(t.put i {cF with does:=1,op:=o.cH hs,dZ:=t.steps+1})with steps:=t.steps+1}) rfl i (fun n hn=>aj hn) (by simp[cX.put]) (by simp[cX.put])) (fun j hj=>by
   by_cases ei:j=i
   ·subst ei;simp only[cX.put,bD];exact⟨fun _=>Or.inr ⟨{HO with bo:=Ct.at},rfl,Ct⟩,fun e=>by simp at e⟩
   ·simp only[cX.put,aj ei];exact⟨fun ig=>Or.inl ⟨trivial,trivial,trivial,ig⟩,(h4 j hj).2⟩)
 ·obtain⟨d,hdd,_⟩:=h1.cR;exact(a_ (Fr.drew (Fr.refl aU W))).tabs hdd q2.2
theorem tH(o:dK)(hs:List dP)(a9:Option Addr)(c9:Nat)(st:Int):prog.built 69 [(0,.int .i64 1),(1,.agg #[.int .i64 o.what,.int .i64 o.ak.part,.bool o.ak.bg.ao,.string o.ak.bg.host,.int .i64 o.ak.bg.port,.bool o.ak.o.ao,.string o.ak.o.host,.int .i64 o.ak.o.port,.string o.ak.path,.string o.ak.query,.string o.ak.method,.slice a9 hs.length c9,.bool o.ak.dB,.string o.ak.body,.bool o.proxy,.string o.text,.string o.user,.string o.pass,.string o.aW,.int .i64 o.cert,.bool o.all,.int .i64 o.n]),(3,.int .i64 st)]=some (dS {cF with does:=1,op:=o.cH hs,dZ:=st} ⟨{o with ak:={o.ak with bo:=.slice a9 hs.length c9}},hs,.pointer none⟩).toArray:=af
theorem gW{P:Program}{ops:Array Oper}{S:World->Prop}{o:Oper}{a:Act}(hg:o.guard=none)(t:TypeId)(parts:Array (Nat×Operand))(ho:o.op=.build t parts)(cells:Array Value)(vs:List (Nat×Value))
  (he:(parts.map fun(i,x)=>(i,a.eval x)).toList=vs)(hf:P.built t vs=some cells):YieldsIf P ops S o (.agg cells) a :=
 Or.inl ⟨by simp[Region.wanted,hg],fun w _=>by
  unfold execOp;simp only[ho,Sem.run_bind,run_build w t _ cells (by rw[he];exact hf),Result.andThen_ok];rfl⟩
theorem qR(h:aI xw a U T t)(n:Int)(o:dK)(hs:List dP)(hk:k<1000000)(Cv:cJ k t)(ho:dL U o hs)(Fm:hs≠ []->∀b,o.ak.bo.ownBlock=some b->b≠T)(hl:hs.length<100000) :
  Calls prog 11 #[.pointer (some ⟨T,0,none⟩),.int .i64 n,.agg o.cells.toArray] U fun e w'=>e=.returned (kG (kF t n (o.cH hs)).2)/\aI xw a w' T (kF t n (o.cH hs)).1/\bS U w':=by
 obtain⟨ah,ch,eK⟩:=ho.ew;obtain⟨x1,dT⟩:∃x1,x1=U.alloc (.cells o.cells.toArray 35):=⟨_,rfl⟩;have dt:Fr aU U x1:=by rw[dT];exact(Fr.refl aU U).alloc _
 have k1:x1.heap[U.heap.size]?=some (.cells o.cells.toArray 35 (0,0)):=by rw[dT];exact aB _ _
 have hT:T<U.heap.size:=by
  obtain⟨B,g,sv,sb,h1,_⟩:=h.ex;exact h1.lt
 have h':=h.dv dt;have nO:=O dt;have uE:=ho.dv dt;unfold kF;cases hn:nk n
 ·as_aux_lemma =>
   have HC:=O (pY x1 T hn);have HH:=O h';rw[dz eK]at dT ⊢;have HX:=O dT;clear hn h Cv h' ho uE eK dt k1 dT hT;go_enter func11,ntmps11;go_wp2_with fail
   rw[<-HX.o];refine HC.o.mono ?_;rintro e u⟨rfl,rfl⟩;unfold kG;go_wp2;go_ret;exact⟨rfl,HH.o,a_ nO.o⟩
 ·obtain⟨i,rfl,hi⟩:=pX hn;obtain⟨B,g,sv,sb,h1,h2,h3,h4⟩:=h'.ex;have HC:=O (tj x1 T hi);have c:x1.cell? ⟨T,17+i*45,none⟩=some (.int .i64 (t.tab i).does):=h1.tab i hi 0 _ rfl;have c2:=h1.steps;have fz:=h1.free 287;have e1:((i:Int)).toNat=i:=rfl;rw[aq rfl,e1];by_cases hd:(t.tab i).does=0
  ·as_aux_lemma =>
    rw[aq hd];rw[hd]at c;have s1:=Cv.steps.1;have s2:=Cv.steps.2;have q1:=h1.ny (t.steps+1);have G3:=O (show bS U (x1.setCell ⟨T,287,none⟩ (.int .i64 (t.steps+1)))from by
     obtain⟨d,hdd,_⟩:=h1.cR;exact(a_ dt).tabs hdd q1.2)
    have HI:=O (aI.put (t':={t with steps:=t.steps+1}) h1 h2 h3 h4 h'.low h'.fr q1 rfl (fun j p hp=>hp) (fun j hj=>⟨fun ig=>Or.inl ⟨rfl,rfl,rfl,ig⟩,(h4 j hj).2⟩));have HO:=O uE;have kN:=q1.2.keep k1 (fun e=>by have e':U.heap.size=T:=e;omega);have HK:=O kN;have JR:(x1.setCell ⟨T,287,none⟩ (.int .i64 (t.steps+1))).cell? ⟨U.heap.size,11,none⟩=some (.slice ah hs.length ch):=by
     simp only[World.cell?,kN,dz eK];rfl
    have DC:=O (show lF (x1.setCell ⟨T,287,none⟩ (.int .i64 (t.steps+1))) (.slice ah hs.length ch) hs from by
     have g1:=uE.bo;rw[eK]at g1;exact cz.JP g1 q1.2 (fun hne b hb=>Fm (fun e=>hne (by rw[e];rfl)) b (by rw[eK];exact hb)))
    have JS:=O (show([]:List (List Value)).length+(hs.map dP.cells).length<1000000000 from cw);have JT:=O (show a.heap.size<=U.heap.size from h.fr.size);have G4:=O (show a.heap.size<=(x1.setCell ⟨T,287,none⟩ (.int .i64 (t.steps+1))).heap.size by
     have u1:=h'.fr.size;have u2:=q1.2.size;omega)
    rw[dz eK]at dT ⊢;have HX:=O dT;have o6:=O eK;clear hn h Cv h1 h2 h3 h4 q1 h' ho uE dt k1 dT kN eK;go_enter func11,ntmps11;go_wp2_with fail
    rw[<-HX.o];refine HC.o.mono ?_;rintro e u⟨rfl,rfl⟩
    go_wp2_with (at_builtin
                 refine iu rfl _ _ rfl a.heap.size _ [] rfl (aV _ _ _ _) _ (hs.map dP.cells) rfl DC.o JS.o G4.o ?_
                 intro v9 w9 gX wx
                 rw[bz]at gX
                 obtain⟨a9,c9,Cw⟩:=gX.form
                 rw[ag]at Cw
                 subst Cw
                 have rG:Fr aU _ w9:=Fr.grown (Fr.refl _ _) wx (fun k hk=>by cases hk)
                 have k9:=rG.keep HK.o (fun h=>h)
                 have JU:w9.cell? ⟨U.heap.size,11,none⟩=some (.slice ah hs.length ch):=by
                   simp only[World.cell?,k9,dz o6.o]
                   rfl
                 have Fo:w9.frozen? ⟨U.heap.size,11,none⟩=false:=by simp[World.frozen?,k9])
    have G5:=O (HI.o.dv rG);have Cs:(w9.setCell ⟨U.heap.size,11,none⟩ (.slice a9 hs.length c9)).heap[U.heap.size]?=some (.cells (dK.cells {o with ak:={o.ak with bo:=.slice a9 hs.length c9}}).toArray 35 (0,0)):=by
     rw[ba k9,dz o6.o];rfl
    have rH:Fr (one U.heap.size) w9 (w9.setCell ⟨U.heap.size,11,none⟩ (.slice a9 hs.length c9)):=(Fr.refl (one U.heap.size) _).setCell (p:=⟨U.heap.size,11,none⟩) (fun _=>rfl) _;have wq:=O (G5.o.aside JT.o k9 ⟨s7,ae⟩ ae ae ae ae rH);have wu:=O (gX.fr rH (fun g hg e=>gX.not k9 ae (by rw[hg];exact ay some e)));have G6:=O ((G3.o.trans (a_ rG)).new rH (ar _))
    clear rG k9 JU Fo rH gX wx JR G3 G5 HI DC G4 HK HX HC c c2 fz;generalize w9.setCell ⟨U.heap.size,11,none⟩ (.slice a9 hs.length c9)=W at *
    obtain⟨N,hN⟩:∃N,N=U.heap.size:=⟨_,rfl⟩;rw[<-hN]at Cs ⊢;have uX:=wo (t:=t) hi wq.o HO.o (show N≠T from ab) hd Cs wu.o;clear hN Cs wq wu;obtain⟨X,hX⟩:∃X,X=(dS {cF with does:=1,op:=o.cH hs,dZ:=t.steps+1} ⟨{o with ak:={o.ak with bo:=.slice a9 hs.length c9}},hs,.pointer none⟩):=⟨_,rfl⟩;rw[<-hX]at uX;have G7:X.toArray.all (·.oneCell')=true:=by rw[hX];exact kj _ _ rfl rfl
    have Fp:X.length=45:=by rw[hX];rfl
    obtain⟨f1,f2,f3,f4,f5⟩:=uX;have xJ:=O (G6.o.trans f5);have HT:=O (show W.drew.there T (17+i*45) X.toArray.size by rw[bb,Fp];exact f2);have uz:=O G7;have Dt:=O (show(prog.info? 69).map (·.size)=some X.toArray.size by rw[bb,Fp];kernel_rfl);have Fq:=O f3;have HR:=O f4;have JV:=O hX;have F1:=O f1;unfold zq at f1;clear hX G7 Fp f2 f3 f4 f5 G6
    refine wp_region_held_drew (S:=(fun V=>V.rangeAt N 0 [.int .i64 o.what,.int .i64 o.ak.part,.bool o.ak.bg.ao,.string o.ak.bg.host,.int .i64 o.ak.bg.port,.bool o.ak.o.ao,.string o.ak.o.host,.int .i64 o.ak.o.port,.string o.ak.path,.string o.ak.query,.string o.ak.method,.slice a9 hs.length c9,.bool o.ak.dB,.string o.ak.body,.bool o.proxy,.string o.text,.string o.user,.string o.pass,.string o.aW,.int .i64 o.cert,.bool o.all,.int .i64 o.n]/\V.cell? ⟨T,287,none⟩=some (.int .i64 (t.steps+1)))) af (by exact f1) ?_
    intro rA;refine aA 0 37 rfl ?_
    try simp only[Act.put,sA,sB,sC]
    refine aA 2 39 rfl ?_
    try simp only[Act.put,sA,sB,sC]
    refine aA 3 40 rfl ?_
    try simp only[Act.put,sA,sB,sC]
    refine aA 4 41 rfl ?_
    try simp only[Act.put,sA,sB,sC]
    refine hG 1 38 rfl (yieldsIf_load_mid bq 35 (.tmp 5) rfl N 0 rfl ([.int .i64 o.what,.int .i64 o.ak.part,.bool o.ak.bg.ao,.string o.ak.bg.host,.int .i64 o.ak.bg.port,.bool o.ak.o.ao,.string o.ak.o.host,.int .i64 o.ak.o.port,.string o.ak.path,.string o.ak.query,.string o.ak.method,.slice a9 hs.length c9,.bool o.ak.dB,.string o.ak.body,.bool o.proxy,.string o.text,.string o.user,.string o.pass,.string o.aW,.int .i64 o.cert,.bool o.all,.int .i64 o.n]) _ (fun w hw=>hw.1) underlying35 rfl af) ?_
    try simp only[Act.put,sA,sB,sC]
    refine aA 5 42 rfl ?_
    try simp only[Act.put,sA,sB,sC]
    have zt:prog.built 69 [(0,.int .i64 1),(1,.agg #[.int .i64 o.what,.int .i64 o.ak.part,.bool o.ak.bg.ao,.string o.ak.bg.host,.int .i64 o.ak.bg.port,.bool o.ak.o.ao,.string o.ak.o.host,.int .i64 o.ak.o.port,.string o.ak.path,.string o.ak.query,.string o.ak.method,.slice a9 hs.length c9,.bool o.ak.dB,.string o.ak.body,.bool o.proxy,.string o.text,.string o.user,.string o.pass,.string o.aW,.int .i64 o.cert,.bool o.all,.int .i64 o.n]),(3,.int .i64 (t.steps+1))]=some X.toArray:=by rw[JV.o];exact tH o hs a9 c9 (t.steps+1)
    refine hG 6 43 rfl (gW rfl 69 _ rfl X.toArray _ (by simp only[bF,bp,bQ];rfl) zt) ?_;clear zt
    try simp only[Act.put,sA,sB,sC]
    refine aA 7 44 rfl ?_
    try simp only[Act.put,sA,sB,sC]
    refine dr 8 rfl fun K hK=>?_;refine fk rfl 69 (.tmp 44) (.tmp 43) rfl T (17+i*45) X.toArray rfl rfl HT.o Dt.o uz.o ?_;refine hK.out _ _ Fq.o ?_;intro rB;clear hK rA rB K;refine wpAnyH_done af ?_ _;go_wp2;go_ret;exact⟨rfl,HR.o,xJ.o⟩
  ·as_aux_lemma =>
    rw[aj hd];have zY:¬((t.tab i).does:Int)=0:=ab;have HH:=O h';rw[dz eK]at dT ⊢;have HX:=O dT;clear hn h Cv h1 h2 h3 h4 h' ho uE eK dt k1 dT hT;go_enter func11,ntmps11;go_wp2_with fail
    rw[<-HX.o];refine HC.o.mono ?_;rintro e u⟨rfl,rfl⟩;go_wp2;go_ret;exact⟨rfl,HH.o,a_ nO.o⟩
end
theorem mq(t:cX)(n:Nat):(cV t n).1.cI.length<=t.cI.length+1:=by
 unfold cV;split
 ·split<;>simp[dV]
 ·split
  ·simp[cX.put]
  ·simp[dV,cX.put]
theorem pk(t:cX)(n:Int):(dW t n).1.cI.length<=t.cI.length+1:=by
 unfold dW;split
 ·split
  ·simp
  ·unfold stepT;split
   ·simp[cX.put]
   ·split
    ·simp[cX.put]
    ·exact mq _ _
 ·simp
theorem rj(t:cX)(n:Int)(o:df):(kF t n o).1.cI=t.cI:=by
 unfold kF;split
 ·split<;>rfl
 ·rfl
structure dD (U:World) (b N R:Nat) (rd:aw) (l:List Value) (hv:Value) (hs:List dP) (w:World):Prop where
 fj:w.heap[b]?=some (.cells #[.string ⟨rd.toArray⟩] 61 (0,0))
 cR:w.heap[N]?=some (.cells l.toArray 35 (0,0))
 res:w.heap[R]?=some (.cells Dn 35 (0,0))
 fr:Fr (one b) U w
 hN:U.heap.size<=N
 Cg:N≠b
 yZ:R≠N
 Ch:R≠b
 hb:b<U.heap.size
 z7:U.heap.size<=R
 hd:OwnRows U.heap.size 65 2 w hv (hs.map dP.cells)
namespace dD
variable {U w u : World} {b N R : Nat} {rd GK : List UInt8} {l : List Value} {hv : Value} {hs : List dP}
theorem call(h:dD U b N R rd l hv hs w)(g:Fr (one b) w u)(hb:u.heap[b]?=some (.cells #[.string ⟨GK.toArray⟩] 61 (0,0))):dD U b N R GK l hv hs u :=
 ⟨hb,g.keep h.cR (fun e=>h.Cg e),g.keep h.res (fun e=>h.Ch e),h.fr.trans g,h.hN,h.Cg,h.yZ,h.Ch,h.hb,h.z7,h.hd.fr g fun n hn q=>by
  have:=h.hd.block n hn;have e:n=b:=q;have:=h.hb;omega⟩
theorem set(h:dD U b N R rd l hv hs w)(j:Nat)(v:Value):dD U b N R rd (l.set j v) hv hs (w.setCell ⟨N,j,none⟩ v) :=
 ⟨(eF (Ne.symm h.Cg) j v).trans h.fj,by rw[ba h.cR j v];simp,(eF h.yZ j v).trans h.res,h.fr.eC (p:=⟨N,j,none⟩) h.hN v,h.hN,h.Cg,h.yZ,h.Ch,h.hb,h.z7,h.hd.fr ((Fr.refl (one N) w).setCell (p:=⟨N,j,none⟩) (fun _=>rfl) v) fun n hn q=>h.hd.not h.cR ae (by rw[hn];exact ay some q)⟩
theorem alloc(h:dD U b N R rd l hv hs w)(o:Obj):dD U b N R rd l hv hs (w.alloc o) :=
 ⟨((Fr.refl aU w).alloc o).keep h.fj (fun h=>h),((Fr.refl aU w).alloc o).keep h.cR (fun h=>h),((Fr.refl aU w).alloc o).keep h.res (fun h=>h),h.fr.alloc o,h.hN,h.Cg,h.yZ,h.Ch,h.hb,h.z7,h.hd.alloc o⟩
theorem cell(h:dD U b N R rd l hv hs w)(j:Nat){x:Value}(hj:l[j]?=some x):w.cell? ⟨N,j,none⟩=some x:=by simp[World.cell?,h.cR,hj]
theorem free(h:dD U b N R rd l hv hs w)(j:Nat):w.frozen? ⟨N,j,none⟩=false:=by simp[World.frozen?,h.cR]
theorem head(h:dD U b N R rd l hv hs w)(p:dP):dD U b N R rd l (.slice (some ⟨w.heap.size,0,none⟩) 1 1) [p] (w.alloc (.cells p.cells.toArray 65)):=by
 obtain⟨h1,h2,h3,h4,h5,h6,h7,h8,h9,z7,Jv⟩:=h.alloc (.cells p.cells.toArray 65);exact⟨h1,h2,h3,h4,h5,h6,h7,h8,h9,z7,fun x hx=>by
  have e:x=p.cells:=by simpa using hx
  subst e;exact⟨rfl,by simp[dP.cells,Value.oneCell']⟩,rfl,Or.inr ⟨w.heap.size,1,p.cells.toArray,rfl,h.fr.size,aB _ _,ar _,ae,rfl,rfl⟩⟩
end dD
theorem di(w:World)(l:List ai)(t:TypeId)(j:Nat)(x:ai)(h:l[j]?=some x):(w.alloc (.cells (l.map Value.string).toArray t)).cell? ⟨w.heap.size,j,none⟩=some (.string x):=by
 have gen:∀(W:World) (b:Nat) (c:Array Value) (f:Nat×Nat),W.heap[b]?=some (.cells c t f)->W.cell? ⟨b,j,none⟩=c[j]?:=fun W b c f hb=>by simp[World.cell?,hb]
 rw[gen _ _ _ _ (aB _ _)];simp[h]
def tv(b:Nat)(r:aw)(U:World)(e:Ending)(w':World):Prop :=
 ∃v:dK×List dP,e=.returned (.agg v.1.cells.toArray)/\bW U.heap.size w' v (nN r).1/\w'.heap[b]?=some (.cells #[.string ⟨(nN r).2.toArray⟩] 61 (0,0))/\Fr (one b) U w'
theorem eY{l:List ai}(h0:0<l.length)(h:∀x∈l,x.size<=B)(r:aw):(cQ l r).1.size<=B:=by
 have hk:=dQ h0 r;have e:(cQ l r).1=l[(cY l.length r).1]'hk:=by
  show l.getD (cY l.length r).1 .empty=_;rw[List.getD_eq_getElem?_getD,List.getElem?_eq_getElem hk];rfl
 rw[e];exact h _ (bZ _)
theorem oI(k:Nat):(eB k).size<=100:=by
 unfold eB;split
 ·decide
 ·split<;>decide
theorem lh(r:aw):(et r).1.host.size<=100/\0<=(et r).1.port/\(et r).1.port<=443:=by
 refine⟨oI _,?_⟩;show 0<=(if(cY 4 r).1<3 then(443:Int)else 80)/\(if(cY 4 r).1<3 then(443:Int)else 80)<=443;split<;>omega
theorem ke(k:Nat):(fT k).length<=1/\∀p∈fT k,p.1.size<=100/\p.2.size<=100:=by
 unfold fT;split
 ·exact⟨aK,aK⟩
 ·refine⟨aK,fun p hp=>?_⟩;have e:=aG.1 hp;subst e;refine⟨?_,(by decide:(⟨#[116,101,120,116,47,104,116,109,108]⟩:ai).size<=100)⟩;dsimp only;split
  ·decide
  ·split<;>decide
theorem en:(∀x∈t1,x.size<=500)/\(∀x∈t2,x.size<=500)/\(∀x∈t3,x.size<=500)/\(∀x∈t4,x.size<=500)/\(∀x∈t5,x.size<=500)/\(∀x∈t6,x.size<=500):=by
 have gen:∀l:List ai,(l.all fun x=>decide (x.size<=500))=true->∀x∈l,x.size<=500:=fun l h x hx=>of_decide_eq_true (cM.1 h x hx);exact⟨gen _ af,gen _ af,gen _ af,gen _ af,gen _ af,gen _ af⟩
theorem oJ{r r1 r2 r3 r4 r5 r6 r7 r8 r9 qK tx qL oK oL oM r16:aw}{a p k h i ca al q:Nat}{c d:ef}{ta tb tc td te tf:ai}
  (Ha:a=(cY 10 r).1)(H1:r1=(cY 10 r).2)(Hp:p=(cY 2 r1).1)(H2:r2=(cY 2 r1).2)(Hc:c=(et r2).1)(H3:r3=(et r2).2)(Hd:d=(et r3).1)(H4:r4=(et r3).2)(Ci:ta=(cQ t1 r4).1)(H5:r5=(cQ t1 r4).2)(Cj:tb=(cQ t2 r5).1)(H6:r6=(cQ t2 r5).2)(Hk:k=(cY 4 r6).1)(H7:r7=(cY 4 r6).2)(Hh:h=(cY 2 r7).1)(H8:r8=(cY 2 r7).2)(Hi:i=(cY 4 r8).1)(H9:r9=(cY 4 r8).2)(z8:tc=(cQ t3 r9).1)(Jw:qK=(cQ t3 r9).2)(z_:td=(cQ t4 qK).1)(Jy:tx=(cQ t4 qK).2)(Aa:te=(cQ t5 tx).1)(Jz:qL=(cQ t5 tx).2)(Ab:tf=(cQ t6 qL).1)(JA:oK=(cQ t6 qL).2)(Ac:ca=(cY 4 oK).1)(JB:oL=(cY 4 oK).2)(Ck:al=(cY 4 oL).1)(JC:oM=(cY 4 oL).2)(Hq:q=(cY 10 oM).1)(JD:r16=(cY 10 oM).2) :
  nN r=(⟨1+(a:Int),p,c,d,ta,.empty,tb,fT k,decide (h=1),.empty,decide (i=3),tc,td,te,tf,ca,decide (al=3),q⟩,r16)/\(a<10/\p<2/\ca<4/\q<10)/\(c.host.size<=100/\0<=c.port/\c.port<=443)/\(d.host.size<=100/\0<=d.port/\d.port<=443)/\ta.size<=500/\tb.size<=500/\tc.size<=500/\td.size<=500/\te.size<=500/\tf.size<=500:=by
 refine⟨?_,⟨Ha▸dQ ae _,Hp▸dQ ae _,Ac▸dQ ae _,Hq▸dQ ae _⟩,Hc▸lh _,Hd▸lh _,Ci▸eY ae en.1 _,Cj▸eY ae en.2.1 _,z8▸eY ae en.2.2.1 _,z_▸eY ae en.2.2.2.1 _,Aa▸eY ae en.2.2.2.2.1 _,Ab▸eY ae en.2.2.2.2.2 _⟩;subst Ha H1 Hp H2 Hc H3 Hd H4 Ci H5 Cj H6 Hk H7 Hh H8 Hi H9 z8 Jw z_ Jy Aa Jz Ab JA Ac JB Ck JC Hq JD;rfl
theorem tz{U w:World}{b N R:Nat}{r r16:aw}{a p k h i ca al q:Nat}{c d:ef}{ta tb tc td te tf:ai}{hv:Value}{hs:List dP}
  (Dp:nN r=(⟨1+(a:Int),p,c,d,ta,.empty,tb,fT k,decide (h=1),.empty,decide (i=3),tc,td,te,tf,ca,decide (al=3),q⟩,r16)/\(a<10/\p<2/\ca<4/\q<10)/\(c.host.size<=100/\0<=c.port/\c.port<=443)/\(d.host.size<=100/\0<=d.port/\d.port<=443)/\ta.size<=500/\tb.size<=500/\tc.size<=500/\td.size<=500/\te.size<=500/\tf.size<=500)(hh:fT k=hs)
  (st:dD U b N R r16 [.int .i64 (wrap64 (1+(a:Int))),.int .i64 (p:Int),.bool c.ao,.string c.host,.int .i64 c.port,.bool d.ao,.string d.host,.int .i64 d.port,.string ta,.string ⟨#[]⟩,.string tb,hv,.bool ((h:Int)==1),.string ⟨#[]⟩,.bool ((i:Int)==3),.string tc,.string td,.string te,.string tf,.int .i64 (ca:Int),.bool ((al:Int)==3),.int .i64 (q:Int)] hv hs w)(cs:Array Value)(e:Ending)(he:e=.returned (.agg #[.int .i64 (wrap64 (1+(a:Int))),.int .i64 (p:Int),.bool c.ao,.string c.host,.int .i64 c.port,.bool d.ao,.string d.host,.int .i64 d.port,.string ta,.string ⟨#[]⟩,.string tb,hv,.bool ((h:Int)==1),.string ⟨#[]⟩,.bool ((i:Int)==3),.string tc,.string td,.string te,.string tf,.int .i64 (ca:Int),.bool ((al:Int)==3),.int .i64 (q:Int)])):tv b r U e (w.setRow R cs):=by
 subst hh he;obtain⟨h1,⟨l1,l2,l3,l4⟩,⟨c1,c2,c3⟩,⟨d1,d2,d3⟩,z1,z2,z3,z4,z5,z6⟩:=Dp;obtain⟨y1,y2⟩:=ke k;have hf:Fr (one R) w (w.setRow R cs):=(Fr.refl (one R) w).setRow (g:=R) (fun _=>rfl) cs;have bO:=st.hd.fr hf fun n hn e=>st.hd.not st.res ae (by rw[hn];exact ay some e);have E0:(-9223372036854775808:Int)<=1+(a:Int)/\1+(a:Int)<=9223372036854775807:=ab
 have hw:wrap64 (1+(a:Int))=1+(a:Int):=IntWalk.wrap64_in _ ab;have vK:∀(x y:Nat),((x:Int)==(y:Int))=decide (x=y):=fun x y=>by
  rw[Bool.eq_iff_iff];simp only[beq_iff_eq,cE];omega
 refine⟨(⟨1+(a:Int),⟨p,c,d,ta,⟨#[]⟩,tb,hv,(h:Int)==1,⟨#[]⟩⟩,(i:Int)==3,tc,td,te,tf,ca,(al:Int)==3,q⟩,fT k),by rw[hw];rfl,⟨⟨bO.at,⟨by show tb.size<_;omega,by show(fT k).length<_;omega,fun x hx=>⟨by have:=(y2 x hx).1;omega,by have:=(y2 x hx).2;omega⟩⟩,?_,?_,?_,?_,?_,?_,?_,?_,?_,?_,?_,?_,?_,?_,?_,?_⟩,?_,bO⟩,?_,st.fr.setRow (fun h=>absurd h (Nat.not_lt.2 st.z7)) cs⟩
 ·show c.host.size<_;omega
 ·show d.host.size<_;omega
 ·show ta.size<=_;omega
 ·show(⟨#[]⟩:ai).size<=2000;decide
 ·show tb.size<=_;omega
 ·show(⟨#[]⟩:ai).size<=5000;decide
 ·show tc.size<_;omega
 ·show td.size<=_;omega
 ·show te.size<=_;omega
 ·show tf.size<=_;omega
 ·show _<=c.port/\c.port<=_;omega
 ·show _<=d.port/\d.port<=_;omega
 ·show _<=(p:Int)/\(p:Int)<=_;omega
 ·exact E0
 ·show _<=(ca:Int)/\(ca:Int)<=_;omega
 ·show _<=(q:Int)/\(q:Int)<=_;omega
 ·rw[h1];have q1:((h:Int)==1)=decide (h=1):=vK h 1;have q2:((i:Int)==3)=decide (i=3):=vK i 3;have q3:((al:Int)==3)=decide (al=3):=vK al 3;unfold dK.cH;dsimp only;rw[q1,q2,q3];rfl
 ·rw[h1,setRow_other (Ne.symm st.Ch) _];exact st.fj
open Go.RowKit
theorem zu(U:World)(T o:Nat){v:Int}(hc:U.cell? ⟨T,o,none⟩=some (.int .i64 v))(hf:U.frozen? ⟨T,o,none⟩=false)(h0:0<=v)(h1:v<1000000) :
  Calls prog 48 #[.pointer (some ⟨T,o,none⟩)] U fun e w'=>e=.returned (.tuple #[])/\w'=U.setCell ⟨T,o,none⟩ (.int .i64 (v+1)):=by
 go_enter func48,ntmps48;go_wp2;go_end0;exact⟨rfl,rfl⟩
