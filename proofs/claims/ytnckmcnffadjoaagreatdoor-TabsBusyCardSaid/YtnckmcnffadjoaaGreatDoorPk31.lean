/- Lemmas for the law's walk. -/
import Derived.Test.YtnckmcnffadjoaaGreatDoorPk30
set_option maxRecDepth 100000
set_option maxHeartbeats 16000000
set_option linter.unusedSimpArgs false
namespace Go.Proofs.YtnckmcnffadjoaaGreatDoor
open Go.Proofs.Tryz
open Go.RowKit
variable {xw:Option (Nat×dx)} {B n m base:Nat} {sb:Nat->Nat} {t t':fD} {c:Array Value} {e:TypeId} {V w U w':World} {v:jG×List gZ} {o:iz} {sv:Value} {l:List xK} {cs:List Value} {q:cU} {k:Int} {pv:Nat->cU} {x:dx} {hs:List gZ} {xs:List (List Value)}
structure jS (base:Nat) (U:World) (v:jG×List gZ) (o:iz):Prop where
 fit:gH U v.1 v.2
 is:v.1.dS v.2=o
 own:OwnRows base 171 2 U v.1.aL.eo (v.2.map gZ.cells)
def Fo(x:xK×(jG×List gZ)):List Value:=.int .i64 x.1.tab :: (x.2.1.cells++(o_ x.1.dI++[.int .i64 x.1.gG,.int .i64 x.1.fin]))
def ot(base:Nat)(U:World)(sv:Value)(l:List xK):Prop:=∃es:List (xK×(jG×List gZ)),es.map (·.1)=l/\OwnRows base 43 28 U sv (es.map Fo)/\∀x∈es,jS base U x.2 x.1.op
def oD(xw:Option (Nat×dx))(B:Nat)(sb:Nat->Nat)(t:fD):Nat->Option (Nat×dx):=fun i=>if i=6 then some (B,t.w)else if i=7 then xw else if i<6/\((t.tab i).does=2\/(t.tab i).does=3)then some (sb i,(t.tab i).seen)else none
theorem OM(hw:t'.w=t.w)(h:∀n,n<6->((t'.tab n).does=2\/(t'.tab n).does=3)->((t.tab n).does=2\/(t.tab n).does=3)/\(t'.tab n).seen=(t.tab n).seen):∀j p,oD xw B sb t' j=some p->oD xw B sb t j=some p:=by
 intro j p hp;unfold oD at hp ⊢;by_cases e6:j=6
 ·rw[az e6]at hp ⊢;rw[<-hw];exact hp
 ·rw[aq e6]at hp ⊢;by_cases e7:j=7
  ·rw[az e7]at hp ⊢;exact hp
  ·rw[aq e7]at hp ⊢;split at hp
   ·rename_i hc;obtain⟨q1,q2⟩:=h j hc.1 hc.2;rw[az ⟨hc.1,q1⟩, <-q2];exact hp
   ·cases hp
theorem OO(hw:t'.w=t.w)(i:Nat)(ht:∀n,n≠i->t'.tab n=t.tab n)(h2:(t'.tab i).does≠2)(h3:(t'.tab i).does≠3):∀j p,oD xw B sb t' j=some p->oD xw B sb t j=some p :=
 OM hw fun n _ hd=>by
  by_cases e:n=i
  ·subst e;exact absurd hd (fun h=>h.elim h2 h3)
  ·rw[ht n e]at hd ⊢;exact⟨hd,rfl⟩
structure cW (xw:Option (Nat×dx)) (a U:World) (T:Nat) (t:fD):Prop where
 ex:∃B g sv sb,gu U T B g sv t/\xL a.heap.size U (oD xw B sb t)/\ot a.heap.size U sv t.cX/\∀n,n<6->((t.tab n).does≠0->jS a.heap.size U ((g n).o,(g n).hs) (t.tab n).op)/\((t.tab n).does=2\/(t.tab n).does=3->(g n).sp=.pointer (some ⟨sb n,0,none⟩))
 low:a.heap.size<=T
 fr:Fr aR a U
structure gy (k:Int) (t:fD):Prop where
 steps:0<=t.steps/\t.steps<=k
 num:∀p i,0<=t.num p i/\t.num p i<=k
 fails:∀n,(t.tab n).fails<=3
 does:∀n,(t.tab n).does<=3
 inv:lh t.w
 seen:∀n,(t.tab n).does=2\/(t.tab n).does=3->lh (t.tab n).seen
 ops:∀n,(t.tab n).does≠0->(t.tab n).op.user.size<=5000/\(t.tab n).op.pass.size<=5000/\(t.tab n).op.path.size<=5000
section
variable {xw : Option (Nat × dx)} {base : Nat} {a U U' : World} {T : Nat} {t : fD}
def gR(U U':World):Prop:=∃S:Nat->Prop,Fr S U U'/\∀(n:Nat) (c:Array Value) (e:TypeId),U.heap[n]?=some (.cells c e (0,0))->(eR e/\e≠86)/\e≠43/\e≠75->¬S n
theorem gR.WM(h:Fr aR U U'):gR U U':=⟨aR,h,fun _ _ _ _ _ h=>h⟩
theorem gR.refl(U:World):gR U U:=gR.WM (ae _ _)
theorem gR.OP(h:Kept U U'):gR U U':=by
 obtain⟨S,hf,hs⟩:=h;exact⟨S,hf,fun n c e hn he=>hs n c e hn he.1.1 he.1.2⟩
theorem gR.block(h:gR U U')(hn:U.heap[n]?=some (.cells c e (0,0)))(he:(eR e/\e≠86)/\e≠43/\e≠75):U'.heap[n]?=some (.cells c e (0,0)):=by
 obtain⟨S,hf,hs⟩:=h;exact hf.keep hn (hs n c e hn he)
theorem gR.step{Z:Nat->Prop}(h:gR U V)(g:Fr Z V U')(hz:∀(n:Nat) (c:Array Value) (e:TypeId),n<U.heap.size->V.heap[n]?=some (.cells c e (0,0))->(eR e/\e≠86)/\e≠43/\e≠75->¬Z n):gR U U':=by
 obtain⟨S,hf,hs⟩:=h;refine⟨fun n=>S n\/Z n,(hf.mono fun _ _ h=>Or.inl h).trans (g.mono fun _ _ h=>Or.inr h),?_⟩;rintro n c e hn he(q|q)
 ·exact hs n c e hn he q
 ·exact hz n c e (bj hn) (hf.keep hn (hs n c e hn he)) he q
theorem gR.trans(h:gR U V)(g:gR V U'):gR U U':=by
 obtain⟨Z,hg,hz⟩:=g;exact h.step hg fun n c e _ hn he=>hz n c e hn he
theorem gR.tabs(h:gR U V)(hT:V.heap[T]?=some (.cells c 75 (0,0)))(g:Fr (one T) V U'):gR U U':=h.step g fun n c' e _ hn he q=>by
 cases(show n=T from q);rw[hT]at hn;cases hn;exact he.2.2 rfl
theorem gR.new(h:gR U V)(g:Fr (one m) V U')(hm:U.heap.size<=m):gR U U':=h.step g fun n c' e hl _ _ q=>by
 have:n=m:=q;omega
theorem sg:(eR 30/\30≠86)/\30≠43/\30≠75:=by unfold eR;decide
theorem EK:eR 171/\171≠86:=by unfold eR;decide
theorem mK:eR 43/\43≠86:=by unfold eR;decide
theorem rD:eR 75/\75≠86:=by unfold eR;decide
theorem jS.rows(h:jS base U v o)(g:OwnRows base 171 2 U' v.1.aL.eo (v.2.map gZ.cells)):jS base U' v o:=⟨{h.fit with eo:=g.at},h.is,g⟩
theorem jS.kept(h:jS base U v o)(hk:Kept U U'):jS base U' v o:=h.rows (hk.rows h.own EK.1 EK.2)
theorem jS.one(h:jS base U v o)(hb:U.heap[n]?=some (.cells c e (0,0)))(he:e≠171)(hf:Fr (one n) U U'):jS base U' v o :=
 h.rows (h.own.fr hf fun g hg q=>h.own.not hb he (by rw[hg];exact ar some q))
theorem ot.kept(h:ot base U sv l)(hk:Kept U U'):ot base U' sv l:=by
 obtain⟨es,h1,h2,h3⟩:=h;exact⟨es,h1,hk.rows h2 mK.1 mK.2,fun x hx=>(h3 x hx).kept hk⟩
theorem ot.one(h:ot base U sv l)(hb:U.heap[n]?=some (.cells c e (0,0)))(he:e≠171)(he':e≠43)(hf:Fr (one n) U U'):ot base U' sv l:=by
 obtain⟨es,h1,h2,h3⟩:=h;exact⟨es,h1,h2.fr hf fun g hg q=>h2.not hb he' (by rw[hg];exact ar some q),fun x hx=>(h3 x hx).one hb he hf⟩
theorem cW.dh(h:cW xw a U T t)(hf:Fr aR U U'):cW xw a U' T t:=by
 obtain⟨B,g,sv,sb,h1,h2,h3,h4⟩:=h.ex;exact⟨⟨B,g,sv,sb,h1.fr hf id,h2.dh hf,h3.kept (fW hf),fun n hn=>⟨fun hd=>((h4 n hn).1 hd).kept (fW hf),(h4 n hn).2⟩⟩,h.low,h.fr.trans hf⟩
theorem cW.put{B:Nat}{g:Nat->rp}{sv:Value}{sb:Nat->Nat}{t':fD}{g':Nat->rp}(h1:gu U T B g sv t)(h2:xL a.heap.size U (oD xw B sb t))(h3:ot a.heap.size U sv t.cX)
  (h4:∀n,n<6->((t.tab n).does≠0->jS a.heap.size U ((g n).o,(g n).hs) (t.tab n).op)/\((t.tab n).does=2\/(t.tab n).does=3->(g n).sp=.pointer (some ⟨sb n,0,none⟩)))(lp:a.heap.size<=T)(cK:Fr aR a U)
  (hb:gu U' T B g' sv t'/\Fr (one T) U U')(hs:t'.cX=t.cX)(hw:∀i p,oD xw B sb t' i=some p->oD xw B sb t i=some p)
  (h4':∀n,n<6->((t'.tab n).does≠0->((g' n).o=(g n).o/\(g' n).hs=(g n).hs/\(t'.tab n).op=(t.tab n).op/\(t.tab n).does≠0)\/jS a.heap.size U ((g' n).o,(g' n).hs) (t'.tab n).op)/\((t'.tab n).does=2\/(t'.tab n).does=3->(g' n).sp=.pointer (some ⟨sb n,0,none⟩))):cW xw a U' T t':=by
 obtain⟨hb,hf⟩:=hb;obtain⟨c,hc,_⟩:=h1.eI;refine⟨⟨B,g',sv,sb,hb,(h2.one lp hc rD.1 rD.2 ag hf).sub hw,by rw[hs];exact h3.one hc ag ag hf,fun n hn=>⟨fun hd=>?_,(h4' n hn).2⟩⟩,lp,cK.step hf fun k hk e=>?_⟩
 ·rcases(h4' n hn).1 hd with ⟨e1,e2,e3,e4⟩|q
  ·rw[e1,e2,e3];exact((h4 n hn).1 e4).one hc ag hf
  ·exact q.one hc ag hf
 ·have:k=T:=e;omega
theorem cW.aside(h:cW xw a U T t)(hn:a.heap.size<=n)(hb:U.heap[n]?=some (.cells c e (0,0)))(he:eR e/\e≠86)(h1:e≠171)(h2:e≠43)(h3:e≠75)(h4:e≠9)(hf:Fr (one n) U U'):cW xw a U' T t:=by
 obtain⟨B,g,sv,sb,g1,g2,g3,g4⟩:=h.ex;obtain⟨d,hd,_⟩:=g1.eI;have hT:¬(one n) T:=fun e'=>by
  cases(show T=n from e');rw[hd]at hb;cases hb;exact h3 rfl
 refine⟨⟨B,g,sv,sb,g1.fr hf hT,g2.one hn hb he.1 he.2 h4 hf,g3.one hb h1 h2 hf,fun m hm=>⟨fun hd=>((g4 m hm).1 hd).one hb h1 hf,(g4 m hm).2⟩⟩,h.low,h.fr.step hf fun k hk e'=>?_⟩;have:k=n:=e';omega
end
abbrev lD := @gR.refl
abbrev kH := @cW.put
abbrev eG := @gR.WM
theorem Jo(base:Nat)(w:World)(B:Nat)(pv:Nat->cU)(x:dx)(o:jG)(hs:List gZ)(h:cz base w B pv x)(hf:gH w o hs)(hi:lh x)(a:World)(tN:kG a)(sG:a.heap.size<=base)(tO:Fr aR a w) :
  Calls prog 14 #[.pointer (some ⟨B,0,none⟩),.agg o.cells.toArray] w (j6 base w B pv (iC x (o.dS hs))):=by
 cases hr:(o.dS hs).right
 ·exact aff base w B pv x o hs h hf hi a tN sG tO hr
 ·obtain⟨h1,h2⟩:=EG hr;have IQ:1<=o.what:=h1;have h2':o.what<=10:=h2;have hq:o.what=1\/o.what=2\/o.what=3\/o.what=4\/o.what=5\/o.what=6\/o.what=7\/(o.what=8\/o.what=9)\/o.what=10:=ab;rcases hq with hq|hq|hq|hq|hq|hq|hq|hq|hq
  ·exact SC base w B pv x o hs h hf hi a tN sG tO hr hq
  ·exact OX base w B pv x o hs h hf hi a tN sG tO hr hq
  ·exact Mq base w B pv x o hs h hf hi a tN sG tO hr hq
  ·exact WV base w B pv x o hs h hf hi a tN sG tO hr hq
  ·exact OY base w B pv x o hs h hf hi a tN sG tO hr hq
  ·exact aaU base w B pv x o hs h hf hi a tN sG tO hr hq
  ·exact SR base w B pv x o hs h hf hi a tN sG tO hr hq
  ·exact aaW base w B pv x o hs h hf hi a tN sG tO hr hq
  ·exact QF base w B pv x o hs h hf hi a tN sG tO hr hq
def Ht(b:Bool)(w:World)(p:Addr)(v:Value):World:=if b then w.setCell p v else w
theorem Az{a:World}(h:Fr (one B) a w)(b:Bool)(k:Nat)(v:Value):Fr (one B) a (Ht b w ⟨B,k,none⟩ v):=by
 cases b
 ·exact h
 ·exact h.setCell (p:=⟨B,k,none⟩) (fun _=>rfl) v
theorem AA{t:TypeId}{f:Nat×Nat}(h:w.heap[B]?=some (.cells cs.toArray t f))(b:Bool)(k:Nat){old:Value}(hk:cs[k]?=some old)(v:Value) :
  (Ht b w ⟨B,k,none⟩ v).heap[B]?=some (.cells (cs.set k (if b then v else old)).toArray t f):=by
 cases b
 ·have e:cs.set k old=cs:=by
   apply jk;intro i;by_cases hi:i=k
   ·subst hi;rw[List.getElem?_set_self (List.getElem?_eq_some_iff.1 hk).1,hk]
   ·rw[List.getElem?_set_ne (kY hi)]
  show w.heap[B]?=some (.cells (cs.set k old).toArray t f);rw[e,h]
 ·show(w.setCell ⟨B,k,none⟩ v).heap[B]?=some (.cells (cs.set k v).toArray t f);rw[b_ h k v,List.setIfInBounds_toArray]
def Hu(b0 b1 b2:Bool)(v q:cU):cU :=
 ⟨if b0 then q.b else v.b,if b0 then q.gv else v.gv,if b0 then q.wv else v.wv,if b1 then q.k else v.k,if b1 then q.kv else v.kv,if b2 then q.cv else v.cv⟩
theorem Pd{b0 b1 b2:Bool}{v:cU}{k:Nat}(h:(Hu b0 b1 b2 v q).ke k):v.ke k\/q.ke k:=by
 rcases h with h|h|h
 ·cases b0
  ·exact Or.inl (Or.inl h)
  ·exact Or.inr (Or.inl h)
 ·cases b1
  ·exact Or.inl (Or.inr (Or.inl h))
  ·exact Or.inr (Or.inr (Or.inl h))
 ·cases b2
  ·exact Or.inl (Or.inr (Or.inr h))
  ·exact Or.inr (Or.inr (Or.inr h))
theorem eP.take{v:cU}{P F:dM}(h:eP base w v P)(g:eP base w q F)(b0 b1 b2:Bool) :
  eP base w (Hu b0 b1 b2 v q) ⟨if b0 then F.bF else P.bF,if b0 then F.waits else P.waits,if b1 then F.book else P.book,if b2 then F.dE else P.dE⟩ :=
 ⟨by cases b0;exact h.oC;exact g.oC,by cases b1;exact h.book;exact g.book,by cases b2;exact h.dE;exact g.dE⟩
def QJ(b0 b1 b2 b3:Bool)(W:World)(B i:Nat)(q:cU)(n:Int):World :=
 Ht b3 (Ht b2 (Ht b1 (Ht b0 W ⟨B,i*3,none⟩ (.pointer (some ⟨q.b,0,none⟩))) ⟨B,i*3+1,none⟩ (.pointer (some ⟨q.k,0,none⟩))) ⟨B,i*3+2,none⟩ q.cv) ⟨B,12,none⟩ (.int .i64 n)
theorem S_{base:Nat}{w W:World}{B N:Nat}{pv qc:Nat->cU}{x f:dx}(h:cz base w B pv x)(hW:Fr aR w W)(hc:cz base W N qc f)(hn:∀k,lz N qc k->w.heap.size<=k){part:Int}{i:Nat}(hi:i<4)(hp:part=(i:Int)){c:Nat}{b0 b1 b2 b3:Bool}
  (h0:c.testBit 0=b0)(h1:c.testBit 1=b1)(h2:c.testBit 2=b2)(h3:c.testBit 3=b3):dk base w B pv (j8 x f part c) (QJ b0 b1 b2 b3 W B i (qc i) f.now):=by
 have hB:=h.dh hW;have cK:Fr (one B) W (QJ b0 b1 b2 b3 W B i (qc i) f.now):=Az (Az (Az (Az (ae _ _) _ _ _) _ _ _) _ _ _) _ _ _;have hpi:part.toNat=i:=by rw[hp];simp
 have hx:j8 x f part c={part:=fun j=>if j=i then⟨if b0 then(f.part j).bF else(x.part j).bF,if b0 then(f.part j).waits else(x.part j).waits,if b1 then(f.part j).book else(x.part j).book,if b2 then(f.part j).dE else(x.part j).dE⟩else x.part j,now:=if b3 then f.now else x.now}:=by
  rw[uu ab ab,hpi];unfold iR;rw[h0,h1,h2,h3]
 have sO:∀j k,j<4->(pv j).ke k->k<w.heap.size:=fun j k hj hk=>h.jh (Or.inr ⟨j,hj,hk⟩);have hge:∀k,(qc i).ke k->w.heap.size<=k:=fun k hk=>hn k (Or.inr ⟨i,hi,hk⟩);have ln:∀j k,j<4->(yO pv i (Hu b0 b1 b2 (pv i) (qc i)) j).ke k->(pv j).ke k\/(j=i/\w.heap.size<=k):=by
  intro j k hj hk;by_cases Gj:j=i
  ·subst Gj;rw[tq]at hk;rcases Pd hk with e|e
   ·exact Or.inl e
   ·exact Or.inr ⟨rfl,hge k e⟩
  ·rw[mI pv _ Gj]at hk;exact Or.inl hk
 rw[hx];refine⟨yO pv i (Hu b0 b1 b2 (pv i) (qc i)),⟨h.low,?_,fun j hj=>?_,fun j l hj hl Y9 k hkj UA=>?_⟩,?_,?_⟩
 ·obtain⟨c0,c1,c2⟩:=xx pv x.now hi;have e0:=AA hB.eI b0 (i*3) c0 (.pointer (some ⟨(qc i).b,0,none⟩));have e1:=AA e0 b1 (i*3+1) (old:=.pointer (some ⟨(pv i).k,0,none⟩)) (by rw[List.getElem?_set_ne ab];exact c1) (.pointer (some ⟨(qc i).k,0,none⟩));have e2:=AA e1 b2 (i*3+2) (old:=(pv i).cv) (by rw[List.getElem?_set_ne ab,List.getElem?_set_ne ab];exact c2) (qc i).cv
  have e3:=AA e2 b3 12 (old:=.int .i64 x.now) (by rw[List.getElem?_set_ne ab,List.getElem?_set_ne ab,List.getElem?_set_ne ab];exact Oi pv x.now) (.int .i64 f.now);unfold QJ;rw[e3]
  have s1:(((iP pv x.now).set (i*3) (if b0=true then .pointer (some ⟨(qc i).b,0,none⟩)else .pointer (some ⟨(pv i).b,0,none⟩))).set (i*3+1) (if b1=true then .pointer (some ⟨(qc i).k,0,none⟩)else .pointer (some ⟨(pv i).k,0,none⟩))).set (i*3+2) (if b2=true then(qc i).cv else(pv i).cv)=iP (yO pv i (Hu b0 b1 b2 (pv i) (qc i))) x.now:=by
   rw[<-yP pv x.now hi];unfold po Hu;cases b0<;>cases b1<;>rfl
  rw[s1];cases b3
  ·rw[aq ag,yc];rfl
  ·rw[az rfl,yc];rfl
 ·by_cases Gj:j=i
  ·subst Gj;rw[tq];show eP base _ _ (if j=j then _ else _);rw[az rfl];have hB':¬(qc j).ke B:=fun e=>by
    have a1:=hge B e;have a2:=h.lt;omega
   exact((hB.part j hj).fr cK hB.R7 (fun k hk e=>hB.Aj hj (by have e':k=B:=e;rw[<-e'];exact hk))).take ((hc.part j hj).fr cK hB.R7 (fun k hk e=>hB' (by have e':k=B:=e;rw[<-e'];exact hk))) b0 b1 b2
  ·rw[mI pv _ Gj];show eP base _ _ (if j=i then _ else _);rw[aq Gj];exact(hB.part j hj).fr cK hB.R7 (fun k hk e=>hB.Aj hj (by have e':k=B:=e;rw[<-e'];exact hk))
 ·rcases ln j k hj hkj with e|⟨e,he⟩
  ·rcases ln l k hl UA with g|⟨g,hg⟩
   ·exact h.apart j l hj hl Y9 k e g
   ·have:=sO j k hj e;omega
  ·rcases ln l k hl UA with g|⟨g,hg⟩
   ·have:=sO l k hl g;omega
   ·exact Y9 (e.trans g.symm)
 ·exact(hW.mono (T:=lz B pv) (fun _ _ h=>absurd h id)).step cK (fun k _ e=>Or.inl e)
 ·rintro k(rfl|⟨j,hj,hk⟩)
  ·exact Or.inl (Or.inl rfl)
  ·rcases ln j k hj hk with e|⟨_,e⟩
   ·exact Or.inl (Or.inr ⟨j,hj,e⟩)
   ·exact Or.inr e
theorem cz.aqc(h:cz base w B pv x)(oF:base<=n)(hn:¬lz B pv n){cs:Array Value}{t:TypeId}(hb:w.heap[n]?=some (.cells cs t (0,0)))(ht:t≠9)(k:Nat)(v:Value) :
  cz base (w.setCell ⟨n,k,none⟩ v) B pv x/\Fr (one n) w (w.setCell ⟨n,k,none⟩ v):=by
 have kJ:Fr (one n) w (w.setCell ⟨n,k,none⟩ v):=(ae (one n) w).setCell (p:=⟨n,k,none⟩) (fun _=>rfl) _;refine⟨h.fr kJ ?_ (fun k hk e=>hn (by have e':k=n:=e;rw[<-e'];exact hk)),kJ⟩;rintro k rfl _;exact⟨oF,fun c f e=>by rw[hb]at e;cases e;exact ht rfl⟩
theorem EP{U':World}{x':dx}(h:cz base U B pv x)(hf:Fr aR w U)(hb:w.heap.size<=base)(hp:dk base U B pv x' U') :
  ∃yZ,cz base U' B yZ x'/\Fr aR w U'/\∀(n:Nat) (c:Array Value) (t:TypeId),U.heap[n]?=some (.cells c t (0,0))->eR t->t≠86->U'.heap[n]?=some (.cells c t (0,0)):=by
 have NN:=hp.frame h hf hb;obtain⟨yZ,h1,h2,_⟩:=hp;exact⟨yZ,h1,NN,fun n c t hn ht hw=>h2.keep hn (h.wX hn ht hw)⟩
theorem Hq(h:cz base U B pv x)(hf:Fr aR w U)(oF:base<=n)(Yk:w.heap.size<=n){cs:Array Value}{t:TypeId}(hb:U.heap[n]?=some (.cells cs t (0,0)))(ht:eR t)(hw:t≠86)(hs:t≠9)(k:Nat)(v:Value) :
  cz base (U.setCell ⟨n,k,none⟩ v) B pv x/\Fr aR w (U.setCell ⟨n,k,none⟩ v)/\(U.setCell ⟨n,k,none⟩ v).heap[n]?=some (.cells (cs.setIfInBounds k v) t (0,0)) /\
   ∀(m:Nat) (o:Obj),m≠n->U.heap[m]?=some o->(U.setCell ⟨n,k,none⟩ v).heap[m]?=some o:=by
 obtain⟨h1,h2⟩:=h.aqc oF (h.wX hb ht hw) hb hs k v;exact⟨h1,hf.gI (p:=⟨n,k,none⟩) Yk _,b_ hb k v,fun m o hm ho=>h2.keep ho (fun e=>hm e)⟩
theorem QG{o:jG}(h:cz w.heap.size U B pv x)(hf:Fr aR w U)(hi:lh x)(ht:kG w)(ho:gH U o hs) :
  Calls prog 14 #[.pointer (some ⟨B,0,none⟩),.agg o.cells.toArray] U (fun e w'=>e=.returned (.agg #[.int .i64 (iC x (o.dS hs)).2.what,.string (iC x (o.dS hs)).2.head,.int .i64 (iC x (o.dS hs)).2.cert])/\dk w.heap.size U B pv (iC x (o.dS hs)).1 w') :=
 Jo w.heap.size U B pv x o hs h ho hi w ht (ay _) hf
theorem gy.new:gy 0 sa:=⟨⟨fG _,fG _⟩,fun _ _=>⟨fG _,fG _⟩,fun _=>aI _,fun _=>aI _,lh.new,fun _ h=>by simp[sa,fe]at h,fun _ h=>by simp[sa,fe]at h⟩
theorem gy.mono{j:Int}(h:gy k t)(hk:k<=j):gy j t:={h with steps:=⟨h.steps.1,Int.le_trans h.steps.2 hk⟩,num:=fun p i=>⟨(h.num p i).1,Int.le_trans (h.num p i).2 hk⟩}
theorem SV{f:Nat->Nat->Int}(h:∀p i,0<=f p i/\f p i<=k)(p i:Nat):0<=Av o f p i/\Av o f p i<=k+1:=by
 unfold Av;have:=h p i;split<;>omega
theorem gy.ends(h:gy k t)(n:Nat)(r:kx):gy k (ja t n r):=by
 unfold ja;refine⟨h.steps,h.num,fun m=>?_,fun m=>?_,h.inv,fun m=>?_,fun m=>?_⟩
 ·show(if m=n then fe else t.tab m).fails<=3;split
  ·exact aI _
  ·exact h.fails m
 ·show(if m=n then fe else t.tab m).does<=3;split
  ·exact aI _
  ·exact h.does m
 ·show(if m=n then fe else t.tab m).does=2\/(if m=n then fe else t.tab m).does=3->lh (if m=n then fe else t.tab m).seen;split
  ·intro e;simp[fe]at e
  ·exact h.seen m
 ·show(if m=n then fe else t.tab m).does≠0->_;split
  ·intro e;exact absurd rfl e
  ·rename_i hm;simp only[aq hm];exact h.ops m
theorem gy.put(h:gy k t)(n:Nat)(x:vd)(hf:x.fails<=3)(hd:x.does<=3)(hs:x.does=2\/x.does=3->lh x.seen)(ho:x.does≠0->x.op.user.size<=5000/\x.op.pass.size<=5000/\x.op.path.size<=5000):gy k (t.put n x):=by
 refine⟨h.steps,h.num,fun m=>?_,fun m=>?_,h.inv,fun m=>?_,fun m=>?_⟩
 ·show(if m=n then x else t.tab m).fails<=3;split
  ·exact hf
  ·exact h.fails m
 ·show(if m=n then x else t.tab m).does<=3;split
  ·exact hd
  ·exact h.does m
 ·show(if m=n then x else t.tab m).does=2\/(if m=n then x else t.tab m).does=3->lh (if m=n then x else t.tab m).seen;split
  ·exact hs
  ·exact h.seen m
 ·show(if m=n then x else t.tab m).does≠0->(if m=n then x else t.tab m).op.user.size<=5000/\(if m=n then x else t.tab m).op.pass.size<=5000/\(if m=n then x else t.tab m).op.path.size<=5000;split
  ·exact ho
  ·exact h.ops m
theorem gy.tick(h:gy k t):gy (k+1) {t with steps:=t.steps+1}:=by
 have g:=h.mono (show k<=k+1 from ab);exact{g with steps:=⟨by have:=h.steps.1;show 0<=t.steps+1;omega,by have:=h.steps.2;show t.steps+1<=k+1;omega⟩}
theorem gy.gG{k:Int}{t:fD}(h:gy k t)(n:Int)(o:iz)(ho:o.user.size<=5000/\o.pass.size<=5000/\o.path.size<=5000):gy (k+1) (yS t n o).1:=by
 have g:=h.mono (show k<=k+1 from ab);unfold yS;split
 ·split
  ·exact(h.put n.toNat {fe with does:=1,op:=o,gG:=t.steps+1} (aI _) (show 1<=3 from ag) (fun e=>by simp at e) (fun _=>ho)).tick
  ·exact g
 ·exact g
theorem gy.cancel(h:gy k t)(n:Int):gy (k+1) (nM t n).1:=by
 have g:=h.mono (show k<=k+1 from ab);unfold nM;split
 ·split
  ·exact g
  ·exact(h.put n.toNat fe (aI _) (aI _) (fun e=>by simp[fe]at e) (fun e=>absurd rfl e)).tick
 ·exact g
theorem gy.fail(h:gy k t)(n:Nat)(r:kx):gy k (ja (t.put n {t.tab n with fails:=m}) n r):=by
 have e:ja (t.put n {t.tab n with fails:=m}) n r=ja t n r:=by
  unfold ja fD.put;simp only[eb]
  congr 1
  funext i
  split
  ·rfl
  ·rfl
 rw[e];exact h.ends n r
theorem gy.O8(h:gy k t)(n:Nat)(hd:(t.tab n).does=3):gy (k+1) (iT t n).1:=by
 have g:=h.mono (show k<=k+1 from ab);unfold iT;split
 ·refine gy.ends ?_ n _;split
  ·exact{g with inv:=h.inv.take (h.seen n (Or.inr hd)) _ _,num:=SV h.num}
  ·exact g
 ·split
  ·rename_i hf;exact g.put n _ hf (show 1<=3 from ag) (fun e=>by simp at e) (fun _=>h.ops n ab)
  ·exact g.fail n _
theorem gy.stepT{k:Int}{t:fD}(h:gy k t)(n:Nat)(h0:(t.tab n).does≠0):gy (k+2) (stepT t n).1:=by
 unfold Go.Proofs.YtnckmcnffadjoaaGreatDoor.stepT;split
 ·have q:=(h.put n {t.tab n with seen:=t.w,num:=t.num,does:=2} (h.fails n) (show 2<=3 from ag) (fun _=>h.inv) (fun _=>h.ops n h0)).tick;exact q.mono ab
 ·split
  ·rename_i h2;have q:=(h.put n {t.tab n with dI:=(iC (t.tab n).seen (t.tab n).op).2,seen:=(iC (t.tab n).seen (t.tab n).op).1,does:=3} (h.fails n) (show 3<=3 from ag) (fun _=>(h.seen n (Or.inl h2)).iC _ (h.ops n h0).1 (h.ops n h0).2.1 (h.ops n h0).2.2) (fun _=>h.ops n h0)).tick;exact q.mono ab
  ·have hd:(t.tab n).does=3:=by have:=h.does n;omega
   exact(h.tick.O8 n hd).mono ab
theorem gy.step(h:gy k t)(n:Int):gy (k+2) (lC t n).1:=by
 have g:=h.mono (show k<=k+2 from ab);unfold lC;split
 ·split
  ·exact g
  ·rename_i h0;exact h.stepT _ h0
 ·exact g
theorem vE.fr{o:jG}(h:vE w o hs)(hf:Fr aR w w'):vE w' o hs:={h with aL:={h.aL with eo:=bg h.aL.eo hf}}
section
variable {a U U' : World} {B C : Nat} {pv qv : Nat → cU} {x x' y : dx}
end
theorem lh.tG(h:lh x):∀i,i<4->(x.part i).bF.length<68719476736/\(x.part i).waits.length<68719476736/\(x.part i).book.length<1000000/\(x.part i).dE.length<=1000000:=fun i _=>by
 obtain⟨l1,l2,l3,l4⟩:=(h.ok.part i).tG;exact⟨ab,ab,ab,ab⟩
theorem Jy(t:fD)(n:Nat):(iT t n).1.cX.length<=t.cX.length+1:=by
 unfold iT;split
 ·split<;>simp[ja]
 ·split
  ·simp[fD.put]
  ·simp[ja,fD.put]
theorem EY(t:fD)(n:Int):(lC t n).1.cX.length<=t.cX.length+1:=by
 unfold lC;split
 ·split
  ·simp
  ·unfold stepT;split
   ·simp[fD.put]
   ·split
    ·simp[fD.put]
    ·exact Jy _ _
 ·simp
theorem Hw(t:fD)(n:Int)(o:iz):(yS t n o).1.cX=t.cX:=by
 unfold yS;split
 ·split<;>rfl
 ·rfl
theorem Ti(t:fD)(n:Int):(nM t n).1.cX=t.cX:=by
 unfold nM;split
 ·split<;>rfl
 ·rfl
theorem XQ{t:TypeId}(hx:∀x∈xs,x.length=22/\∀u∈x,u.oneCell'=true)(h:w.heap[n]?=some (.cells xs.flatten.toArray t (0,0)))(hm:m=xs.length)(hl:m<=4):dV 22 w (.slice (some ⟨n,0,none⟩) m m) xs:=by
 subst hm;refine⟨hx,Or.inr ⟨n,0,xs.length,rfl,ay _,fq,bj h,fun j x hj i u hi=>?_⟩⟩;simp only[World.cell?,h,bw];have key:∀(ys:List (List Value)),(∀z∈ys,z.length=22)->∀(j:Nat) (z:List Value) (i:Nat) (u:Value),ys[j]?=some z->z[i]?=some u->ys.flatten[j*22+i]?=some u:=by
  intro ys
  induction ys with
  |nil=>intro _ j z i u hj;cases j<;>cases hj
  |cons y ys ih =>
   intro hy j z i u hj hi;rw[List.flatten_cons];have Gu:=hy y (cQ ..);cases j with
   |zero =>
    have e:y=z:=by simpa using hj
    subst e;have hil:=(List.getElem?_eq_some_iff.1 hi).1;rw[ik,bw,List.getElem?_append_left ab];exact hi
   |succ j =>
    rw[List.getElem?_append_right ab,show(j+1)*22+i-y.length=j*22+i from ab];exact ih (fun z hz=>hy z (bN _ hz)) j z i u (by simpa using hj) hi
 simpa using key xs (fun z hz=>(hx z hz).1) j x i u hj hi
theorem JA.one{t:TypeId}{o:jG}{ah:Option Addr}{ch:Nat}(h:vE w o hs)(hh:o.aL.eo=.slice ah hs.length ch)(hb:w.heap[n]?=some (.cells o.cells.toArray t (0,0))):JA w (.slice (some ⟨n,0,none⟩) 1 1) [(o,hs)]:=by
 refine⟨XQ (xs:=[o.cells]) (fun x hx=>?_) (by simpa using hb) rfl ag,aQ,fun p hp=>?_⟩
 ·rw[cE]at hx;subst hx;exact⟨rfl,afT o hh⟩
 ·rw[cE]at hp;subst hp;exact h
theorem Tq(o:jG)(hs:List gZ):Fb [(o,hs)]=!sq (o,hs):=by
 unfold Fb;simp
def akz:jG:=⟨0,⟨0,⟨false,.empty,0⟩,⟨false,.empty,0⟩,.empty,.empty,.empty,.slice none 0 0,false,.empty⟩,false,.empty,.empty,.empty,.empty,0,false,0⟩
def zeroV:rp:=⟨akz,[],.pointer none⟩
theorem QH(o:jG)(h:o.aL.eo.oneCell'=true):∀u∈o.cells,u.oneCell'=true:=by
 generalize hv:o.aL.eo.oneCell'=b at h;unfold jG.cells gq.cells;intro u hu;by_cases e:u=o.aL.eo
 ·rw[e,hv,h]
 ·simp only[List.cons_append,List.nil_append,bB,cq,dU,e,false_or]at hu;rcases hu with rfl|rfl|rfl|rfl|rfl|rfl|rfl|rfl|rfl|rfl|rfl|rfl|rfl|rfl|rfl|rfl|rfl|rfl|rfl|rfl|rfl<;>rfl
theorem Aw(x:vd)(v:rp)(h:v.o.aL.eo.oneCell'=true)(hp:v.sp.oneCell'=true):(mX x v).toArray.all (·.oneCell')=true :=
 bW (by
  have ho:=QH v.o h;intro u hu;unfold mX lj o_ at hu;simp only[bB,bK,cq,dU]at hu;rcases hu with rfl|hu|hu
  ·rfl
  ·exact ho u hu
  ·rcases hu with rfl|rfl|rfl|hu
   ·rfl
   ·rfl
   ·exact hp
   ·rcases hu with hu|hu
    ·rcases hu with rfl|rfl|rfl|rfl|rfl|rfl|rfl|rfl|rfl|rfl|rfl|rfl|rfl|rfl|rfl|rfl<;>rfl
    ·rcases hu with rfl|rfl|rfl<;>rfl)
section
variable {xw : Option (Nat × dx)} {a U U' : World} {T : Nat} {t : fD}
theorem Hr(h:cW xw a U T t)(hi:lh t.w) :
  Calls prog 16 #[.pointer (some ⟨T,0,none⟩)] U (Hh a.heap.size U t.w):=by
 obtain⟨B,g,sv,sb,h1,h2,h3,h4⟩:=h.ex;obtain⟨pv,hw⟩:=h2.at (i:=6) (B:=B) (x:=t.w) rfl;have HC:=O (BA _ _ _ _ _ hw hi.tG);have c:=h1.main;clear h h1 h2 h3 h4 hw hi;go_enter func16,ntmps16;go_wp2_with fail
 refine HC.o.mono ?_;rintro e u hu;obtain⟨N,qv,rfl,hc⟩:=hu;have HH:=O hc;clear hc;go_wp2;go_ret;exact⟨N,qv,rfl,HH.o⟩
end
theorem S'{D:Nat}{qd:Nat->cU}{f:dx}(h:cz base w B pv x)(hF:cz base w D qd f)(hs:lh f)(part:Int){c:Nat}(hc:c=0\/c=1\/c=4\/c=7\/c=8\/c=10) :
  Calls prog 89 #[.pointer (some ⟨B,0,none⟩),.pointer (some ⟨D,0,none⟩),.int .i64 part,.int .i64 c] w fun e w'=>e=.returned (.tuple #[])/\dk base w B pv (j8 x f part c) w':=by
 have TW:=O (BA base w D qd f hF hs.tG);have HH:=O h;have uW:=h.lt;have o9:=O uW;have HC:=O hc;clear h hF hs hc;by_cases h0:part<0
 ·have h1:¬(0:Int)<=part:=ab;have HX:=O (show j8 x f part c=x by unfold j8;rw[aq ab]);clear TW HC uW;go_enter func89,ntmps89;go_wp2
  try simp only[Exit.inBlock,Exit.then]
  refine aS (results_none rfl _ _ _) rfl ?_;rw[HX.o];exact⟨rfl,fu HH.o (ae _ _)⟩
 by_cases h4:4<=part
 ·have h1:(0:Int)<=part:=ab;have h5:¬part<4:=ab;have HX:=O (show j8 x f part c=x by unfold j8;rw[aq ab]);clear TW HC uW;go_enter func89,ntmps89;go_wp2
  try simp only[Exit.inBlock,Exit.then]
  refine aS (results_none rfl _ _ _) rfl ?_;rw[HX.o];exact⟨rfl,fu HH.o (ae _ _)⟩
 obtain⟨i,hi,AQ⟩:∃i:Nat,part=(i:Int)/\i<4:=⟨part.toNat,ab,ab⟩;subst hi;have Nd:(i:Int)<4:=ab;have qD:¬(i:Int)<0:=ab;have NP:¬(4:Int)<=(i:Int):=ab;have Lf:(0:Int)<=(i:Int):=ab;have tz:=O AQ;clear h0 h4;go_enter func89,ntmps89;go_wp2_with fail
 refine TW.o.mono ?_;rintro e u⟨N,qc,rfl,hcw,hu,hn⟩;have HCW:=O hcw;have HN:=O hn;have HU:=O (show∀n,Fr aR u (u.drewN n)from fun n=>dz n (ae aR u));have HWU:=O hu;clear hcw hu hn TW;go_wp2_with fail
 go_quiet (fail);have uA:=HU.o nq;generalize u.drewN nq=u1 at uA ⊢;have QK:=O (HCW.o.dh uA);have I9:=O (HWU.o.trans uA);have hBN:¬B=N:=by have a1:=HN.o N (Or.inl rfl);omega
 have hNB:¬N=B:=fun e=>hBN e.symm;have htd:=fun(c:Nat) (b0 b1 b2 b3:Bool) (h0:c.testBit 0=b0) (h1:c.testBit 1=b1) (h2:c.testBit 2=b2) (h3:c.testBit 3=b3)=>S_ HH.o I9.o QK.o HN.o tz.o (part:=(i:Int)) rfl h0 h1 h2 h3;unfold QJ at htd;have hN:=QK.o.partAt tz.o;have n0:=hN.cell0;have n1:=hN.hZ;have n2:=hN.lV;have n3:u1.cell? ⟨N,12,none⟩=some (.int .i64 f.now):=by
  have j:=QK.o.eI;simp only[World.cell?,j];rfl
 have hB:=(HH.o.dh I9.o).partAt tz.o;have b0:=hB.cell0;have b1:=hB.hZ;have b2:=hB.lV;have b3:u1.cell? ⟨B,12,none⟩=some (.int .i64 x.now):=by
  have j:=(HH.o.dh I9.o).eI;simp only[World.cell?,j];rfl
 have f0:=hB.free (i*3);have f1:=hB.free (i*3+1);have f2:=hB.free (i*3+2);have f3:=hB.free 12;have axd:B<u1.heap.size:=bj hB.eI;have axe:N<u1.heap.size:=bj hN.eI;obtain⟨ca,ck,M5⟩:=(QK.o.part i tz.o).dE.form;rw[ai]at M5;rw[M5]at n2 htd;have HTD:=O htd;clear htd;obtain⟨cb,cl,hcg⟩:=((HH.o.dh I9.o).part i tz.o).dE.form;rw[ai]at hcg;rw[hcg]at b2;clear hN hB uA QK I9 HU HWU HN HCW HH M5 hcg uW
 rcases HC.o with rfl|rfl|rfl|rfl|rfl|rfl
 ·clear HC;go_wp2_with fail
  go_end0;exact⟨rfl,HTD.o _ false false false false ag ag ag ag⟩
 ·clear HC;go_wp2_with fail
  go_end0;exact⟨rfl,HTD.o _ true false false false ag ag ag ag⟩
 ·clear HC;go_wp2_with fail
  go_end0;exact⟨rfl,HTD.o _ false false true false ag ag ag ag⟩
 ·clear HC;go_wp2_with fail
  go_end0;exact⟨rfl,HTD.o _ true true true false ag ag ag ag⟩
 ·clear HC;go_wp2_with fail
  go_end0;exact⟨rfl,HTD.o _ false false false true ag ag ag ag⟩
 ·clear HC;go_wp2_with fail
  go_end0;exact⟨rfl,HTD.o _ false true false true ag ag ag ag⟩
def vF(m:tA):Bool:=sq (m.o,m.hs)
def vp(ms:List tA):Bool:=decide (ms.length<=150)&&!(ms.any vF)
theorem AI.dh{m:tA}(h:AI w m)(hf:Fr aR w w'):AI w' m:={h with op:=h.op.fr hf}
theorem af2{m m':tA}(h:AI w m)(h':AI w m')(e:m.cells=m'.cells):vF m=vF m':=by
 unfold tA.cells at e;simp only[fE]at e;have:=XO (o:=(m.o,m.hs)) (o':=(m'.o,m'.hs)) h.op h'.op e.2.2;unfold vF;rw[this]
theorem Pq(m:tA)(w:World)(h:AI w m) :
  Calls prog 26 #[.agg m.cells.toArray] w fun e w'=>e=.returned (.bool (vF m))/\Fr aR w w':=by
 obtain⟨kd,tb,o,hs⟩:=m;obtain⟨ah,ch,hh⟩:=dQ h.op.aL.eo;rw[ai]at hh;obtain⟨i0,qD,pq,kZ,lq⟩:=info_parts XI;obtain⟨y,hy⟩:∃y,y=tA.cells ⟨kd,tb,o,hs⟩:=⟨_,rfl⟩;obtain⟨x1,mO⟩:∃x1,x1=w.alloc (.cells y.toArray 66):=⟨_,rfl⟩;have df:Fr aR w x1:=by rw[mO];exact(ae aR w).alloc _
 have k1:x1.heap[w.heap.size]?=some (.cells y.toArray 66 (0,0)):=by rw[mO];exact aB _ _
 have HR:=O (show x1.rangeAt w.heap.size 2 o.cells by
  intro j v hj;have e:(y.toArray)[2+j]?=some v:=by
   rw[hy,List.getElem?_toArray,Nat.add_comm];exact hj
  simp only[World.cell?,k1];exact e)
 obtain⟨x2,P2⟩:∃x2,x2=x1.alloc (.cells o.cells.toArray 41):=⟨_,rfl⟩;have dy:Fr aR x1 x2:=by rw[P2];exact(ae aR x1).alloc _
 have hoa:=h.op.fr (df.trans dy);have Dd:=O (XP _ _ x2 (JA.one hoa hh (n:=x1.heap.size) (by rw[P2];exact aB _ _)));rw[Tq]at Dd;have MM:Instr.fill (fun i=>some (i*i0.size,i0.size)) ((Array.range (1*i0.size)).map ((Value.agg zOp).cells[· %(Value.agg zOp).cells.size]!)) [(0,.agg o.cells.toArray)]=some o.cells.toArray:=by rw[kZ,eA hh];exact afS o ah hs.length ch
 have M4:=O mO;have Qx:=O P2;have HF:=O (df.trans dy);have Vz:=O (show(prog.info? 41).map (·.size)=some o.cells.length from af);obtain⟨oc,CU⟩:∃oc,oc=o.cells:=⟨_,rfl⟩;rw[<-CU]at HR MM Qx Vz;rw[<-hy];clear h hh df dy k1 mO P2 hoa hy CU;unfold vF;go_enter func26,ntmps26
 go_wp2_with (first|((with_reducible refine cY 4 ?_);rw[<-M4.o];refine aU rfl 41 (.tmp 3) rfl w.heap.size 2 rfl oc _ HR.o underlying41 rfl Vz.o ?_;refine yf rfl 52 41 1 _ rfl (some 5) rfl oc.toArray i0 (.agg zOp) [(0,.agg oc.toArray)] (by simp only[eC,cA,dn];rfl) underlying52 qD pq (by rw[kZ];decide) (by rw[kZ];decide) MM x1.heap.size rfl ?_)|fail)
 rw[<-Qx.o];refine Dd.o.mono ?_;rintro e u⟨rfl,hf⟩;go_wp2;go_ret;exact⟨fx aQ,HF.o.trans hf⟩
theorem Hz(v:Value)(ms:List tA)(w:World)(h:xf w v ms) :
  Calls prog 8 #[v] w fun e w'=>e=.returned (.bool (vp ms))/\Fr aR w w':=by
 classical
 obtain⟨hv,hl,ha⟩:=h;obtain⟨av,cv,fI⟩:=hv.form;rw[ai]at fI;subst fI;obtain⟨p,hp⟩:∃p:List Value->Bool,∀m∈ms,p m.cells=vF m:=⟨fun x=>decide (∃m∈ms,m.cells=x/\vF m=true),fun m hm=>by
  cases hq:vF m
  ·refine bh (fun⟨m',Cr,e,Hk⟩=>?_);rw[af2 (ha m' Cr) (ha m hm) e,hq]at Hk;cases Hk
  ·exact bf ⟨m,hm,rfl,hq⟩⟩
 have M5:=O (CI _ #[] p _ _ w call26 (fun x hx u hu=>by
  obtain⟨m,hm,rfl⟩:=bV.1 hx;rw[hp m hm];simpa using Pq m u ((ha m hm).dh hu)) hv)
 have jn:=O (show(ms.map tA.cells).any p=ms.any vF by
  rw[List.any_map];clear M5 hv hl
  induction ms with
  |nil=>rfl
  |cons m ms ih =>
   rw[List.any_cons,List.any_cons,ih (fun x hx=>ha x (bN _ hx)) (fun x hx=>hp x (bN _ hx))];show(p m.cells||_)=_;rw[hp m (cQ ..)])
 clear hp ha hv;by_cases h30:ms.length<=150
 ·have hb:=O (show vp ms=!(ms.any vF)by unfold vp;rw[bf h30];rfl);have i30:(ms.length:Int)<=150:=ab;have d30:decide ((ms.length:Int)<=150)=true:=bf i30;go_enter func8,ntmps8;go_wp2_with fail
  refine M5.o.mono ?_;rw[jn.o];rintro e u⟨rfl,hf⟩;go_wp2;go_ret;exact⟨fx hb.o.symm,hf⟩
 ·have hb:=O (show vp ms=false by unfold vp;rw[bh h30];rfl);have i30:¬(ms.length:Int)<=150:=ab;have d30:decide ((ms.length:Int)<=150)=false:=bh i30;go_enter func8,ntmps8;go_wp2;go_ret;exact⟨fx hb.o.symm,ae _ _⟩
theorem vn.of{v:Value}{ms:List tA}(h:xf w v ms)(hb:vp ms=true):vn w v ms/\ms.length<=150:=by
 unfold vp at hb;simp only[cD,dD,Bool.not_eq_true',eW]at hb;exact⟨⟨h.1,fun m hm=>gH.aqN (h.2.2 m hm).op (by have:=hb.2 m hm;unfold vF at this;simpa using this)⟩,hb.1⟩
section
variable {xw : Option (Nat × dx)} {a U U' : World} {T : Nat} {t : fD}
theorem O7(h:cW xw a U T t)(n:Int)(hk:k<1000000)(hs:gy k t) :
  Calls prog 27 #[.pointer (some ⟨T,0,none⟩),.int .i64 n] U fun e w'=>e=.returned (CD (nM t n).2)/\cW xw a w' T (nM t n).1/\gR U w':=by
 unfold nM;cases hn:FU n
 ·have HC:=O (Jj U T hn);have HH:=O h;clear hn h hs;go_enter func27,ntmps27;go_wp2_with fail
  refine HC.o.mono ?_;rintro e u⟨rfl,rfl⟩;unfold CD;go_wp2;go_ret;exact⟨rfl,HH.o,lD _⟩
 ·obtain⟨i,rfl,hi⟩:=Ji hn;obtain⟨B,g,sv,sb,h1,h2,h3,h4⟩:=h.ex;have HC:=O (OL U T hi);have c:U.cell? ⟨T,17+i*45,none⟩=some (.int .i64 (t.tab i).does):=h1.tab i hi 0 _ rfl;have c2:=h1.steps;have fz:=h1.free 287;have e1:((i:Int)).toNat=i:=rfl;rw[az rfl,e1];by_cases hd:(t.tab i).does=0
  ·rw[az hd];rw[hd]at c;have HH:=O h;clear hn h hs h1 h2 h3 h4;go_enter func27,ntmps27;go_wp2_with fail
   refine HC.o.mono ?_;rintro e u⟨rfl,rfl⟩;go_wp2;go_ret;exact⟨rfl,HH.o,lD _⟩
  ·rw[aq hd];have hd0:¬((t.tab i).does:Int)=0:=ab;have s1:=hs.steps.1;have s2:=hs.steps.2;have q1:=h1.EJ (t.steps+1);have HT:=O (q1.1.there (o:=17+i*45) (n:=45) ab);have q2:=q1.1.OK hi fe zeroV
   have HR:=O (kH (t':={(t.put i fe)with steps:=t.steps+1}) h1 h2 h3 h4 h.low h.fr ⟨q2.1,q1.2.trans q2.2⟩ rfl (OO (t':={(t.put i fe)with steps:=t.steps+1}) rfl i (fun n hn=>aq hn) (by simp[fD.put,fe]) (by simp[fD.put,fe])) (fun j hj=>by
    by_cases ei:j=i
    ·subst ei;simp[fD.put,fe]
    ·simp only[fD.put,aq ei];exact⟨fun tV=>Or.inl ⟨trivial,trivial,trivial,tV⟩,(h4 j hj).2⟩))
   have YA:=O (show gR U _ from by
    obtain⟨d,hd,_⟩:=h1.eI;exact(lD U).tabs hd (q1.2.trans q2.2))
   clear hn h hs h1 h2 h3 h4 q1 q2;go_enter func27,ntmps27;go_wp2_with fail
   refine HC.o.mono ?_;rintro e u⟨rfl,rfl⟩;go_wp2_with ((with_reducible refine cV 72 ?_);refine iq rfl 72 _ _ rfl T (17+i*45) (mX fe zeroV).toArray rfl rfl HT.o rfl (Aw _ _ rfl rfl) ?_)
   go_ret;exact⟨rfl,HR.o,YA.o⟩
end
theorem si{P:Program}{ops:Array Oper}{a:Act}{w:World}{K:Act->World->Prop}{Q:Exit->Act->World->Prop}{E:Prop}{op:Oper}(zd:op.guard=none)(ty:TypeId)(x y:Operand)(ho:op.op=.store ty x y)
  (b o:Nat)(cells:Array Value)(hx:a.eval x=.pointer (some ⟨b,o,none⟩))(hy:a.eval y=.agg cells)
  (ht:w.there b o cells.size)(hi:(P.info? ty).map (·.size)=some cells.size)(h1:cells.all (·.oneCell')=true)
  (h:K (a.put op.dst undef) (w.setCells b o cells.toList)):if Region.wanted op (yielded ops a.tmps)=true then Oper.wp P op a w K Q else E:=by
 have hw:Region.wanted op (yielded ops a.tmps)=true:=by simp[Region.wanted,zd]
 rw[az hw];exact wp_store_mid ty x y ho b o cells hx hy ht hi h1 h
section
variable {xw : Option (Nat × dx)} {a U U' : World} {T : Nat} {t : fD}
def afz(o:jG)(hs:List gZ)(a9:Option Addr)(c9:Nat)(t:fD)(T N:Nat)(V:World):Prop:=V.rangeAt N 0 [.int .i64 o.what,.int .i64 o.aL.part,.bool o.aL.dm.aF,.string o.aL.dm.host,.int .i64 o.aL.dm.port,.bool o.aL.o.aF,.string o.aL.o.host,.int .i64 o.aL.o.port,.string o.aL.path,.string o.aL.query,.string o.aL.method,.slice a9 hs.length c9,.bool o.aL.fU,.string o.aL.body,.bool o.proxy,.string o.text,.string o.user,.string o.pass,.string o.bP,.int .i64 o.cert,.bool o.all,.int .i64 o.n]/\V.cell? ⟨T,287,none⟩=some (.int .i64 (t.steps+1))
theorem dV.fr1{k:Nat}{v:Value}{S:Nat->Prop}(h:dV k w v xs)(hf:Fr S w w')(hn:xs≠ []->∀b,v.ownBlock=some b->¬S b):dV k w' v xs:=by
 by_cases e:xs=[]
 ·subst e;rcases h.2 with ⟨a,c,e1,_,e3⟩|⟨bk,o,c,e1,h1,h2,h3,h4⟩
  ·exact⟨h.1,Or.inl ⟨a,c,e1,rfl,e3⟩⟩
  ·exact⟨h.1,Or.inr ⟨bk,o,c,e1,h1,h2,cN h3 hf.size,fun j x hx=>by simp at hx⟩⟩
 ·exact h.fr hf (hn e)
theorem vB{N:Nat}(h:V.heap[N]?=some (.cells cs.toArray e (0,0))):V.rangeAt N 0 cs:=fun j v hv=>by
 rw[bw];simp only[World.cell?,h];simpa using hv
theorem aaX{x1 W:World}{o:jG}{hs:List gZ}{a9:Option Addr}{c9 i N:Nat}(hi:i<6)(aaY:cW xw a W T {t with steps:=t.steps+1})(HO:gH x1 o hs)(hNT:N≠T)(hd:(t.tab i).does=0)
  (hk9:W.heap[N]?=some (.cells (jG.cells {o with aL:={o.aL with eo:=.slice a9 hs.length c9}}).toArray 41 (0,0)))(aaZ:OwnRows a.heap.size 171 2 W (.slice a9 hs.length c9) (hs.map gZ.cells)) :
  afz o hs a9 c9 t T N W.drew/\W.drew.there T (17+i*45) 45/\afz o hs a9 c9 t T N (W.drew.setCells T (17+i*45) (mX {fe with does:=1,op:=o.dS hs,gG:=t.steps+1} ⟨{o with aL:={o.aL with eo:=.slice a9 hs.length c9}},hs,.pointer none⟩))/\cW xw a (W.drew.setCells T (17+i*45) (mX {fe with does:=1,op:=o.dS hs,gG:=t.steps+1} ⟨{o with aL:={o.aL with eo:=.slice a9 hs.length c9}},hs,.pointer none⟩)) T {(t.put i {fe with does:=1,op:=o.dS hs,gG:=t.steps+1})with steps:=t.steps+1}/\gR W (W.drew.setCells T (17+i*45) (mX {fe with does:=1,op:=o.dS hs,gG:=t.steps+1} ⟨{o with aL:={o.aL with eo:=.slice a9 hs.length c9}},hs,.pointer none⟩)):=by
 have afA:=aaY.dh (aA (ae aR W));have akB:=aaZ.fr (aA (ae aR W)) (fun _ _ h=>h);obtain⟨B2,g2,sv2,sb2,h1,h2,h3,h4⟩:=afA.ex;have c3:=h1.steps;have akC:W.drew.heap[N]?=some (.cells (jG.cells {o with aL:={o.aL with eo:=.slice a9 hs.length c9}}).toArray 41 (0,0)):=hk9;have q2:=h1.OK hi {fe with does:=1,op:=o.dS hs,gG:=t.steps+1} ⟨{o with aL:={o.aL with eo:=.slice a9 hs.length c9}},hs,.pointer none⟩
 refine⟨?_,h1.there ab,?_,?_,?_⟩
 ·exact⟨vB (cs:=jG.cells {o with aL:={o.aL with eo:=.slice a9 hs.length c9}}) akC,c3⟩
 ·exact⟨vB (cs:=jG.cells {o with aL:={o.aL with eo:=.slice a9 hs.length c9}}) (q2.2.keep akC (fun e=>hNT e)),q2.1.steps⟩
 ·exact kH (t':={(t.put i {fe with does:=1,op:=o.dS hs,gG:=t.steps+1})with steps:=t.steps+1}) h1 h2 h3 h4 afA.low afA.fr q2 rfl (OO (t':={(t.put i {fe with does:=1,op:=o.dS hs,gG:=t.steps+1})with steps:=t.steps+1}) rfl i (fun n hn=>aq hn) (by simp[fD.put]) (by simp[fD.put])) (fun j hj=>by
   by_cases ei:j=i
   ·subst ei;simp only[fD.put,eb];exact⟨fun _=>Or.inr ⟨{HO with eo:=akB.at},rfl,akB⟩,fun e=>by simp at e⟩
   ·simp only[fD.put,aq ei];exact⟨fun tV=>Or.inl ⟨trivial,trivial,trivial,tV⟩,(h4 j hj).2⟩)
 ·obtain⟨d,hdd,_⟩:=h1.eI;exact(eG (aA (ae aR W))).tabs hdd q2.2
theorem Xa(o:jG)(hs:List gZ)(a9:Option Addr)(c9:Nat)(st:Int):prog.built 72 [(0,.int .i64 1),(1,.agg #[.int .i64 o.what,.int .i64 o.aL.part,.bool o.aL.dm.aF,.string o.aL.dm.host,.int .i64 o.aL.dm.port,.bool o.aL.o.aF,.string o.aL.o.host,.int .i64 o.aL.o.port,.string o.aL.path,.string o.aL.query,.string o.aL.method,.slice a9 hs.length c9,.bool o.aL.fU,.string o.aL.body,.bool o.proxy,.string o.text,.string o.user,.string o.pass,.string o.bP,.int .i64 o.cert,.bool o.all,.int .i64 o.n]),(3,.int .i64 st)]=some (mX {fe with does:=1,op:=o.dS hs,gG:=st} ⟨{o with aL:={o.aL with eo:=.slice a9 hs.length c9}},hs,.pointer none⟩).toArray:=af
theorem yd{P:Program}{ops:Array Oper}{S:World->Prop}{o:Oper}{a:Act}(hg:o.guard=none)(t:TypeId)(parts:Array (Nat×Operand))(ho:o.op=.build t parts)(cells:Array Value)(vs:List (Nat×Value))
  (he:(parts.map fun(i,x)=>(i,a.eval x)).toList=vs)(hf:P.built t vs=some cells):YieldsIf P ops S o (.agg cells) a :=
 Or.inl ⟨by simp[Region.wanted,hg],fun w _=>by
  unfold execOp;simp only[ho,Sem.run_bind,run_build w t _ cells (by rw[he];exact hf),Result.andThen_ok];rfl⟩
theorem Hs(h:cW xw a U T t)(n:Int)(o:jG)(hs:List gZ)(hk:k<1000000)(pk:gy k t)(ho:gH U o hs)(hnh:hs≠ []->∀b,o.aL.eo.ownBlock=some b->b≠T)(hl:hs.length<100000) :
  Calls prog 20 #[.pointer (some ⟨T,0,none⟩),.int .i64 n,.agg o.cells.toArray] U fun e w'=>e=.returned (CD (yS t n (o.dS hs)).2)/\cW xw a w' T (yS t n (o.dS hs)).1/\gR U w':=by
 obtain⟨ah,ch,gV⟩:=ho.gX;obtain⟨x1,mO⟩:∃x1,x1=U.alloc (.cells o.cells.toArray 41):=⟨_,rfl⟩;have df:Fr aR U x1:=by rw[mO];exact(ae aR U).alloc _
 have k1:x1.heap[U.heap.size]?=some (.cells o.cells.toArray 41 (0,0)):=by rw[mO];exact aB _ _
 have hT:T<U.heap.size:=by
  obtain⟨B,g,sv,sb,h1,_⟩:=h.ex;exact h1.lt
 have h':=h.dh df;have k_:=O df;have Fj:=ho.dh df;unfold yS;cases hn:FU n
 ·as_aux_lemma =>
   have HC:=O (Jj x1 T hn);have HH:=O h';rw[eA gV]at mO ⊢;have HX:=O mO;clear hn h pk h' ho Fj gV df k1 mO hT;go_enter func20,ntmps20;go_wp2_with fail
   rw[<-HX.o];refine HC.o.mono ?_;rintro e u⟨rfl,rfl⟩;unfold CD;go_wp2;go_ret;exact⟨rfl,HH.o,eG k_.o⟩
 ·obtain⟨i,rfl,hi⟩:=Ji hn;obtain⟨B,g,sv,sb,h1,h2,h3,h4⟩:=h'.ex;have HC:=O (OL x1 T hi);have c:x1.cell? ⟨T,17+i*45,none⟩=some (.int .i64 (t.tab i).does):=h1.tab i hi 0 _ rfl;have c2:=h1.steps;have fz:=h1.free 287;have e1:((i:Int)).toNat=i:=rfl;rw[az rfl,e1];by_cases hd:(t.tab i).does=0
  ·as_aux_lemma =>
    rw[az hd];rw[hd]at c;have s1:=pk.steps.1;have s2:=pk.steps.2;have q1:=h1.EJ (t.steps+1);have HTB:=O (show gR U (x1.setCell ⟨T,287,none⟩ (.int .i64 (t.steps+1)))from by
     obtain⟨d,hdd,_⟩:=h1.eI;exact(eG df).tabs hdd q1.2)
    have HI:=O (kH (t':={t with steps:=t.steps+1}) h1 h2 h3 h4 h'.low h'.fr q1 rfl (fun j p hp=>hp) (fun j hj=>⟨fun tV=>Or.inl ⟨rfl,rfl,rfl,tV⟩,(h4 j hj).2⟩));have HO:=O Fj;have kN:=q1.2.keep k1 (fun e=>by have e':U.heap.size=T:=e;omega);have HK:=O kN;have y11:(x1.setCell ⟨T,287,none⟩ (.int .i64 (t.steps+1))).cell? ⟨U.heap.size,11,none⟩=some (.slice ah hs.length ch):=by
     simp only[World.cell?,kN,eA gV];rfl
    have JP:=O (show oO (x1.setCell ⟨T,287,none⟩ (.int .i64 (t.steps+1))) (.slice ah hs.length ch) hs from by
     have g1:=Fj.eo;rw[gV]at g1;exact dV.fr1 g1 q1.2 (fun hne b hb=>hnh (fun e=>hne (by rw[e];rfl)) b (by rw[gV];exact hb)))
    have Fq:=O (show([]:List (List Value)).length+(hs.map gZ.cells).length<1000000000 from bG);have HAN:=O (show a.heap.size<=U.heap.size from h.fr.size);have uY:=O (show a.heap.size<=(x1.setCell ⟨T,287,none⟩ (.int .i64 (t.steps+1))).heap.size by
     have u1:=h'.fr.size;have u2:=q1.2.size;omega)
    rw[eA gV]at mO ⊢;have HX:=O mO;have lS:=O gV;clear hn h pk h1 h2 h3 h4 q1 h' ho Fj df k1 mO kN gV;go_enter func20,ntmps20;go_wp2_with fail
    rw[<-HX.o];refine HC.o.mono ?_;rintro e u⟨rfl,rfl⟩
    go_wp2_with (at_builtin
                 refine Ax rfl _ _ rfl a.heap.size _ [] rfl (dv _ _ _ _) _ (hs.map gZ.cells) rfl JP.o Fq.o uY.o ?_
                 intro v9 w9 vy aa0
                 rw[List.nil_append]at vy
                 obtain⟨a9,c9,hv9⟩:=vy.form
                 rw[ai]at hv9
                 subst hv9
                 have T4:Fr aR _ w9:=fk (ae _ _) aa0 (fun k hk=>by cases hk)
                 have k9:=T4.keep HK.o id
                 have z11:w9.cell? ⟨U.heap.size,11,none⟩=some (.slice ah hs.length ch):=by
                   simp only[World.cell?,k9,eA lS.o]
                   rfl
                 have aqe:w9.frozen? ⟨U.heap.size,11,none⟩=false:=by simp[World.frozen?,k9])
    have HI9:=O (HI.o.dh T4);have hk9:(w9.setCell ⟨U.heap.size,11,none⟩ (.slice a9 hs.length c9)).heap[U.heap.size]?=some (.cells (jG.cells {o with aL:={o.aL with eo:=.slice a9 hs.length c9}}).toArray 41 (0,0)):=by
     rw[b_ k9,eA lS.o];rfl
    have T5:Fr (one U.heap.size) w9 (w9.setCell ⟨U.heap.size,11,none⟩ (.slice a9 hs.length c9)):=(ae (one U.heap.size) _).setCell (p:=⟨U.heap.size,11,none⟩) (fun _=>rfl) _;have aaY:=O (HI9.o.aside HAN.o k9 ⟨jo,ag⟩ ag ag ag ag T5);have aaZ:=O (vy.fr T5 (fun g hg e=>vy.not k9 ag (by rw[hg];exact ar some e)));have HKW:=O ((HTB.o.trans (eG T4)).new T5 (ay _))
    clear T4 k9 z11 aqe T5 vy aa0 y11 HTB HI9 HI JP uY HK HX HC c c2 fz;generalize w9.setCell ⟨U.heap.size,11,none⟩ (.slice a9 hs.length c9)=W at *
    obtain⟨N,hN⟩:∃N,N=U.heap.size:=⟨_,rfl⟩;rw[<-hN]at hk9 ⊢;have fc:=aaX (t:=t) hi aaY.o HO.o (show N≠T from ab) hd hk9 aaZ.o;clear hN hk9 aaY aaZ;obtain⟨X,hX⟩:∃X,X=(mX {fe with does:=1,op:=o.dS hs,gG:=t.steps+1} ⟨{o with aL:={o.aL with eo:=.slice a9 hs.length c9}},hs,.pointer none⟩):=⟨_,rfl⟩;rw[<-hX]at fc;have Hg:X.toArray.all (·.oneCell')=true:=by rw[hX];exact Aw _ _ rfl rfl
    have UR:X.length=45:=by rw[hX];rfl
    obtain⟨f1,f2,f3,f4,f5⟩:=fc;have YA:=O (HKW.o.trans f5);have HT:=O (show W.drew.there T (17+i*45) X.toArray.size by rw[aW,UR];exact f2);have M4:=O Hg;have HXS:=O (show(prog.info? 72).map (·.size)=some X.toArray.size by rw[aW,UR];kernel_rfl);have FD:=O f3;have HR:=O f4;have HXV:=O hX;have F1:=O f1;unfold afz at f1;clear hX Hg UR f2 f3 f4 f5 HKW
    refine wp_region_held_drew (S:=(fun V=>V.rangeAt N 0 [.int .i64 o.what,.int .i64 o.aL.part,.bool o.aL.dm.aF,.string o.aL.dm.host,.int .i64 o.aL.dm.port,.bool o.aL.o.aF,.string o.aL.o.host,.int .i64 o.aL.o.port,.string o.aL.path,.string o.aL.query,.string o.aL.method,.slice a9 hs.length c9,.bool o.aL.fU,.string o.aL.body,.bool o.proxy,.string o.text,.string o.user,.string o.pass,.string o.bP,.int .i64 o.cert,.bool o.all,.int .i64 o.n]/\V.cell? ⟨T,287,none⟩=some (.int .i64 (t.steps+1)))) af (by exact f1) ?_
    intro zc;refine tkN 0 37 rfl ?_
    refine tkN 2 39 rfl ?_
    refine tkN 3 40 rfl ?_
    refine tkN 4 41 rfl ?_
    refine tT 1 38 rfl (fB bC 41 (.tmp 5) rfl N 0 rfl ([.int .i64 o.what,.int .i64 o.aL.part,.bool o.aL.dm.aF,.string o.aL.dm.host,.int .i64 o.aL.dm.port,.bool o.aL.o.aF,.string o.aL.o.host,.int .i64 o.aL.o.port,.string o.aL.path,.string o.aL.query,.string o.aL.method,.slice a9 hs.length c9,.bool o.aL.fU,.string o.aL.body,.bool o.proxy,.string o.text,.string o.user,.string o.pass,.string o.bP,.int .i64 o.cert,.bool o.all,.int .i64 o.n]) _ (fun w hw=>hw.1) underlying41 rfl af) ?_
    try simp only[Act.put,sA,sB,sC]
    refine tkN 5 42 rfl ?_
    have YB:prog.built 72 [(0,.int .i64 1),(1,.agg #[.int .i64 o.what,.int .i64 o.aL.part,.bool o.aL.dm.aF,.string o.aL.dm.host,.int .i64 o.aL.dm.port,.bool o.aL.o.aF,.string o.aL.o.host,.int .i64 o.aL.o.port,.string o.aL.path,.string o.aL.query,.string o.aL.method,.slice a9 hs.length c9,.bool o.aL.fU,.string o.aL.body,.bool o.proxy,.string o.text,.string o.user,.string o.pass,.string o.bP,.int .i64 o.cert,.bool o.all,.int .i64 o.n]),(3,.int .i64 (t.steps+1))]=some X.toArray:=by rw[HXV.o];exact Xa o hs a9 c9 (t.steps+1)
    refine tT 6 43 rfl (yd rfl 72 _ rfl X.toArray _ (by simp only[eC,cA,dn];rfl) YB) ?_;clear YB
    try simp only[Act.put,sA,sB,sC]
    refine tkN 7 44 rfl ?_
    refine eL 8 rfl fun K hK=>?_;refine si rfl 72 (.tmp 44) (.tmp 43) rfl T (17+i*45) X.toArray rfl rfl HT.o HXS.o M4.o ?_;refine hK.out _ _ FD.o ?_;intro xz;clear hK zc xz K;refine wpAnyH_done af ?_ _;go_wp2;go_ret;exact⟨rfl,HR.o,YA.o⟩
  ·as_aux_lemma =>
    rw[aq hd];have hd0:¬((t.tab i).does:Int)=0:=ab;have HH:=O h';rw[eA gV]at mO ⊢;have HX:=O mO;clear hn h pk h1 h2 h3 h4 h' ho Fj gV df k1 mO hT;go_enter func20,ntmps20;go_wp2_with fail
    rw[<-HX.o];refine HC.o.mono ?_;rintro e u⟨rfl,rfl⟩;go_wp2;go_ret;exact⟨rfl,HH.o,eG k_.o⟩
end
