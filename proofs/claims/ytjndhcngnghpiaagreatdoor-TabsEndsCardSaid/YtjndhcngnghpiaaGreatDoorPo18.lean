/- Lemmas for the law's walk. -/
import Derived.Test.YtjndhcngnghpiaaGreatDoorPo17
set_option maxRecDepth 100000
set_option maxHeartbeats 16000000
set_option linter.unusedSimpArgs false
namespace Go.Proofs.YtjndhcngnghpiaaGreatDoor
open Go.Proofs.Tryz
open Go.RowKit
variable {xw:Option (Nat×d_)} {B n m base i:Nat} {sb:Nat->Nat} {t t':gB} {c:bS} {e:TypeId} {V a w U w':World} {v:jB×List gU} {o:kn} {sv:Value} {l:List U5} {q:dm} {pv:Nat->dm} {x:d_} {hs:List gU} {k:Int}
structure jY (base:Nat) (U:World) (v:jB×List gU) (o:kn):Prop where
 fit:gL U v.1 v.2
 is:v.1.dP v.2=o
 own:OwnRows base 142 2 U v.1.aI.ef (v.2.map gU.cells)
def KA(x:U5×(jB×List gU)):aX:=.int .i64 x.1.tab :: (x.2.1.cells++(pW x.1.iI++[.int .i64 x.1.mM,.int .i64 x.1.fin]))
def qy(base:Nat)(U:World)(sv:Value)(l:List U5):Prop:=∃es:List (U5×(jB×List gU)),es.map (·.1)=l/\OwnRows base 88 28 U sv (es.map KA)/\∀x∈es,jY base U x.2 x.1.op
def oY(xw:Option (Nat×d_))(B:Nat)(sb:Nat->Nat)(t:gB):Nat->Option (Nat×d_):=fun i=>if i=6 then some (B,t.w)else if i=7 then xw else if i<6/\((t.tab i).does=2\/(t.tab i).does=3)then some (sb i,(t.tab i).seen)else none
theorem Nh(hw:t'.w=t.w)(h:∀n,n<6->((t'.tab n).does=2\/(t'.tab n).does=3)->((t.tab n).does=2\/(t.tab n).does=3)/\(t'.tab n).seen=(t.tab n).seen):∀j p,oY xw B sb t' j=some p->oY xw B sb t j=some p:=by
 intro j p hp;unfold oY at hp ⊢;by_cases e6:j=6
 ·rw[aA e6]at hp ⊢;rw[<-hw];exact hp
 ·rw[ar e6]at hp ⊢;by_cases e7:j=7
  ·rw[aA e7]at hp ⊢;exact hp
  ·rw[ar e7]at hp ⊢;split at hp
   ·rename_i hc;obtain⟨q1,q2⟩:=h j hc.1 hc.2;rw[aA ⟨hc.1,q1⟩, <-q2];exact hp
   ·cases hp
theorem Ni(hw:t'.w=t.w)(i:Nat)(ht:∀n,n≠i->t'.tab n=t.tab n)(h2:(t'.tab i).does≠2)(h3:(t'.tab i).does≠3):∀j p,oY xw B sb t' j=some p->oY xw B sb t j=some p :=
 Nh hw fun n _ hd=>by
  by_cases e:n=i
  ·subst e;exact absurd hd (fun h=>h.elim h2 h3)
  ·rw[ht n e]at hd ⊢;exact⟨hd,rfl⟩
structure di (xw:Option (Nat×d_)) (a U:World) (T:Nat) (t:gB):Prop where
 ex:∃B g sv sb,fU U T B g sv t/\xp a.heap.size U (oY xw B sb t)/\qy a.heap.size U sv t.fO/\∀n,n<6->((t.tab n).does≠0->jY a.heap.size U ((g n).o,(g n).hs) (t.tab n).op)/\((t.tab n).does=2\/(t.tab n).does=3->(g n).sp=.pointer (some ⟨sb n,0,none⟩))
 low:a.heap.size<=T
 fr:Fr aW a U
structure fP (k:Int) (t:gB):Prop where
 steps:0<=t.steps/\t.steps<=k
 num:∀p i,0<=t.num p i/\t.num p i<=k
 fails:∀n,(t.tab n).fails<=3
 does:∀n,(t.tab n).does<=3
 inv:nr t.w
 seen:∀n,(t.tab n).does=2\/(t.tab n).does=3->nr (t.tab n).seen
 ops:∀n,(t.tab n).does≠0->(t.tab n).op.user.size<=5000/\(t.tab n).op.pass.size<=5000/\(t.tab n).op.path.size<=5000
section
variable {xw : Option (Nat × d_)} {base : Nat} {a U U' : World} {T : Nat} {t : gB}
def gH(U U':World):Prop:=∃S:dz,Fr S U U'/\∀(n:Nat) (c:bS) (e:TypeId),U.heap[n]?=some (.cells c e (0,0))->(fi e/\e≠97)/\e≠88/\e≠78->¬S n
theorem gH.YT(h:Fr aW U U'):gH U U':=⟨aW,h,fun _ _ _ _ _ h=>h⟩
theorem gH.refl(U:World):gH U U:=gH.YT (ae _ _)
theorem gH.Nj(h:Kept U U'):gH U U':=by
 obtain⟨S,hf,hs⟩:=h;exact⟨S,hf,fun n c e hn he=>hs n c e hn he.1.1 he.1.2⟩
theorem gH.block(h:gH U U')(hn:U.heap[n]?=some (.cells c e (0,0)))(he:(fi e/\e≠97)/\e≠88/\e≠78):U'.heap[n]?=some (.cells c e (0,0)):=by
 obtain⟨S,hf,hs⟩:=h;exact hf.keep hn (hs n c e hn he)
theorem gH.step{Z:dz}(h:gH U V)(g:Fr Z V U')(hz:∀(n:Nat) (c:bS) (e:TypeId),n<U.heap.size->V.heap[n]?=some (.cells c e (0,0))->(fi e/\e≠97)/\e≠88/\e≠78->¬Z n):gH U U':=by
 obtain⟨S,hf,hs⟩:=h;refine⟨fun n=>S n\/Z n,(hf.mono fun _ _ h=>Or.inl h).trans (g.mono fun _ _ h=>Or.inr h),?_⟩;rintro n c e hn he(q|q)
 ·exact hs n c e hn he q
 ·exact hz n c e (bg hn) (hf.keep hn (hs n c e hn he)) he q
theorem gH.trans(h:gH U V)(g:gH V U'):gH U U':=by
 obtain⟨Z,hg,hz⟩:=g;exact h.step hg fun n c e _ hn he=>hz n c e hn he
theorem gH.tabs(h:gH U V)(hT:V.heap[T]?=some (.cells c 78 (0,0)))(g:Fr (one T) V U'):gH U U':=h.step g fun n c' e _ hn he q=>by
 cases(show n=T from q);rw[hT]at hn;cases hn;exact he.2.2 rfl
theorem gH.new(h:gH U V)(g:Fr (one m) V U')(hm:U.heap.size<=m):gH U U':=h.step g fun n c' e hl _ _ q=>by
 have:n=m:=q;omega
theorem rI:(fi 46/\46≠97)/\46≠88/\46≠78:=by unfold fi;decide
theorem DL:fi 142/\142≠97:=by unfold fi;decide
theorem uy:fi 88/\88≠97:=by unfold fi;decide
theorem qX:fi 78/\78≠97:=by unfold fi;decide
theorem jY.rows(h:jY base U v o)(g:OwnRows base 142 2 U' v.1.aI.ef (v.2.map gU.cells)):jY base U' v o:=⟨{h.fit with ef:=g.at},h.is,g⟩
theorem jY.kept(h:jY base U v o)(hk:Kept U U'):jY base U' v o:=h.rows (hk.rows h.own DL.1 DL.2)
theorem jY.one(h:jY base U v o)(hb:U.heap[n]?=some (.cells c e (0,0)))(he:e≠142)(hf:Fr (one n) U U'):jY base U' v o :=
 h.rows (h.own.fr hf fun g hg q=>h.own.not hb he (by rw[hg];exact aq some q))
theorem qy.kept(h:qy base U sv l)(hk:Kept U U'):qy base U' sv l:=by
 obtain⟨es,h1,h2,h3⟩:=h;exact⟨es,h1,hk.rows h2 uy.1 uy.2,fun x hx=>(h3 x hx).kept hk⟩
theorem qy.one(h:qy base U sv l)(hb:U.heap[n]?=some (.cells c e (0,0)))(he:e≠142)(he':e≠88)(hf:Fr (one n) U U'):qy base U' sv l:=by
 obtain⟨es,h1,h2,h3⟩:=h;exact⟨es,h1,h2.fr hf fun g hg q=>h2.not hb he' (by rw[hg];exact aq some q),fun x hx=>(h3 x hx).one hb he hf⟩
theorem di.dt(h:di xw a U T t)(hf:Fr aW U U'):di xw a U' T t:=by
 obtain⟨B,g,sv,sb,h1,h2,h3,h4⟩:=h.ex;exact⟨⟨B,g,sv,sb,h1.fr hf id,h2.dt hf,h3.kept (kO hf),fun n hn=>⟨fun hd=>((h4 n hn).1 hd).kept (kO hf),(h4 n hn).2⟩⟩,h.low,h.fr.trans hf⟩
theorem di.put{B:Nat}{g:Nat->qo}{sv:Value}{sb:Nat->Nat}{t':gB}{g':Nat->qo}(h1:fU U T B g sv t)(h2:xp a.heap.size U (oY xw B sb t))(h3:qy a.heap.size U sv t.fO)
  (h4:∀n,n<6->((t.tab n).does≠0->jY a.heap.size U ((g n).o,(g n).hs) (t.tab n).op)/\((t.tab n).does=2\/(t.tab n).does=3->(g n).sp=.pointer (some ⟨sb n,0,none⟩)))(kR:a.heap.size<=T)(cN:Fr aW a U)
  (hb:fU U' T B g' sv t'/\Fr (one T) U U')(hs:t'.fO=t.fO)(hw:∀i p,oY xw B sb t' i=some p->oY xw B sb t i=some p)
  (h4':∀n,n<6->((t'.tab n).does≠0->((g' n).o=(g n).o/\(g' n).hs=(g n).hs/\(t'.tab n).op=(t.tab n).op/\(t.tab n).does≠0)\/jY a.heap.size U ((g' n).o,(g' n).hs) (t'.tab n).op)/\((t'.tab n).does=2\/(t'.tab n).does=3->(g' n).sp=.pointer (some ⟨sb n,0,none⟩))):di xw a U' T t':=by
 obtain⟨hb,hf⟩:=hb;obtain⟨c,hc,_⟩:=h1.eG;refine⟨⟨B,g',sv,sb,hb,(h2.one kR hc qX.1 qX.2 ag hf).sub hw,by rw[hs];exact h3.one hc ag ag hf,fun n hn=>⟨fun hd=>?_,(h4' n hn).2⟩⟩,kR,cN.step hf fun k hk e=>?_⟩
 ·rcases(h4' n hn).1 hd with ⟨e1,e2,e3,e4⟩|q
  ·rw[e1,e2,e3];exact((h4 n hn).1 e4).one hc ag hf
  ·exact q.one hc ag hf
 ·have:k=T:=e;omega
theorem di.aside(h:di xw a U T t)(hn:a.heap.size<=n)(hb:U.heap[n]?=some (.cells c e (0,0)))(he:fi e/\e≠97)(h1:e≠142)(h2:e≠88)(h3:e≠78)(h4:e≠9)(hf:Fr (one n) U U'):di xw a U' T t:=by
 obtain⟨B,g,sv,sb,g1,g2,g3,g4⟩:=h.ex;obtain⟨d,hd,_⟩:=g1.eG;have hT:¬(one n) T:=fun e'=>by
  cases(show T=n from e');rw[hd]at hb;cases hb;exact h3 rfl
 refine⟨⟨B,g,sv,sb,g1.fr hf hT,g2.one hn hb he.1 he.2 h4 hf,g3.one hb h1 h2 hf,fun m hm=>⟨fun hd=>((g4 m hm).1 hd).one hb h1 hf,(g4 m hm).2⟩⟩,h.low,h.fr.step hf fun k hk e'=>?_⟩;have:k=n:=e';omega
end
abbrev ld := @gH.refl
abbrev kp := @di.put
abbrev eE := @gH.YT
theorem ady(base:Nat)(w:World)(B:Nat)(pv:Nat->dm)(x:d_)(o:jB)(hs:List gU)(h:df base w B pv x)(hf:gL w o hs)(hi:nr x)(a:World)(sP:kL a)(rN:a.heap.size<=base)(sQ:Fr aW a w) :
  aC 30 #[.pointer (some ⟨B,0,none⟩),.agg o.cells.toArray] w (jG base w B pv (mX x (o.dP hs))):=by
 cases hr:(o.dP hs).right
 ·exact adb base w B pv x o hs h hf hi a sP rN sQ hr
 ·obtain⟨h1,h2⟩:=Nd hr;have P':1<=o.what:=h1;have h2':o.what<=10:=h2;have hq:o.what=1\/o.what=2\/o.what=3\/o.what=4\/o.what=5\/o.what=6\/o.what=7\/(o.what=8\/o.what=9)\/o.what=10:=ab;rcases hq with hq|hq|hq|hq|hq|hq|hq|hq|hq
  ·exact QW base w B pv x o hs h hf hi a sP rN sQ hr hq
  ·exact Nr base w B pv x o hs h hf hi a sP rN sQ hr hq
  ·exact KS base w B pv x o hs h hf hi a sP rN sQ hr hq
  ·exact Vf base w B pv x o hs h hf hi a sP rN sQ hr hq
  ·exact Ns base w B pv x o hs h hf hi a sP rN sQ hr hq
  ·exact Y2 base w B pv x o hs h hf hi a sP rN sQ hr hq
  ·exact Q9 base w B pv x o hs h hf hi a sP rN sQ hr hq
  ·exact Y4 base w B pv x o hs h hf hi a sP rN sQ hr hq
  ·exact O5 base w B pv x o hs h hf hi a sP rN sQ hr hq
def F8(b:Bool)(w:World)(p:Addr)(v:Value):World:=if b then w.setCell p v else w
theorem zC(h:Fr (one B) a w)(b:Bool)(k:Nat)(v:Value):Fr (one B) a (F8 b w ⟨B,k,none⟩ v):=by
 cases b
 ·exact h
 ·exact h.setCell (p:=⟨B,k,none⟩) (fun _=>rfl) v
theorem zD{cs:aX}{t:TypeId}{f:Nat×Nat}(h:w.heap[B]?=some (.cells cs.toArray t f))(b:Bool)(k:Nat){old:Value}(hk:cs[k]?=some old)(v:Value) :
  (F8 b w ⟨B,k,none⟩ v).heap[B]?=some (.cells (cs.set k (if b then v else old)).toArray t f):=by
 cases b
 ·have e:cs.set k old=cs:=by
   apply iT;intro i;by_cases hi:i=k
   ·subst hi;rw[List.getElem?_set_self (List.getElem?_eq_some_iff.1 hk).1,hk]
   ·rw[List.getElem?_set_ne (kH hi)]
  show w.heap[B]?=some (.cells (cs.set k old).toArray t f);rw[e,h]
 ·show(w.setCell ⟨B,k,none⟩ v).heap[B]?=some (.cells (cs.set k v).toArray t f);rw[b_ h k v,List.setIfInBounds_toArray]
def F9(b0 b1 b2:Bool)(v q:dm):dm :=
 ⟨if b0 then q.b else v.b,if b0 then q.gv else v.gv,if b0 then q.wv else v.wv,if b1 then q.k else v.k,if b1 then q.kv else v.kv,if b2 then q.cv else v.cv⟩
theorem NC{b0 b1 b2:Bool}{v:dm}{k:Nat}(h:(F9 b0 b1 b2 v q).jM k):v.jM k\/q.jM k:=by
 rcases h with h|h|h
 ·cases b0
  ·exact Or.inl (Or.inl h)
  ·exact Or.inr (Or.inl h)
 ·cases b1
  ·exact Or.inl (Or.inr (Or.inl h))
  ·exact Or.inr (Or.inr (Or.inl h))
 ·cases b2
  ·exact Or.inl (Or.inr (Or.inr h))
  ·exact Or.inr (Or.inr (Or.inr h))
theorem eO.take{v:dm}{P F:eB}(h:eO base w v P)(g:eO base w q F)(b0 b1 b2:Bool) :
  eO base w (F9 b0 b1 b2 v q) ⟨if b0 then F.bW else P.bW,if b0 then F.waits else P.waits,if b1 then F.book else P.book,if b2 then F.eH else P.eH⟩ :=
 ⟨by cases b0;exact h.oW;exact g.oW,by cases b1;exact h.book;exact g.book,by cases b2;exact h.eH;exact g.eH⟩
def O9(b0 b1 b2 b3:Bool)(W:World)(B i:Nat)(q:dm)(n:Int):World :=
 F8 b3 (F8 b2 (F8 b1 (F8 b0 W ⟨B,i*3,none⟩ (.pointer (some ⟨q.b,0,none⟩))) ⟨B,i*3+1,none⟩ (.pointer (some ⟨q.k,0,none⟩))) ⟨B,i*3+2,none⟩ q.cv) ⟨B,12,none⟩ (.int .i64 n)
theorem Rh{base:Nat}{w W:World}{B N:Nat}{pv qc:Nat->dm}{x f:d_}(h:df base w B pv x)(hW:Fr aW w W)(hc:df base W N qc f)(hn:∀k,mr N qc k->w.heap.size<=k){part:Int}{i:Nat}(hi:i<4)(hp:part=(i:Int)){c:Nat}{b0 b1 b2 b3:Bool}
  (h0:c.testBit 0=b0)(h1:c.testBit 1=b1)(h2:c.testBit 2=b2)(h3:c.testBit 3=b3):dy base w B pv (mz x f part c) (O9 b0 b1 b2 b3 W B i (qc i) f.now):=by
 have hB:=h.dt hW;have cN:Fr (one B) W (O9 b0 b1 b2 b3 W B i (qc i) f.now):=zC (zC (zC (zC (ae _ _) _ _ _) _ _ _) _ _ _) _ _ _;have Z8:part.toNat=i:=by rw[hp];simp
 have hx:mz x f part c={part:=fun j=>if j=i then⟨if b0 then(f.part j).bW else(x.part j).bW,if b0 then(f.part j).waits else(x.part j).waits,if b1 then(f.part j).book else(x.part j).book,if b2 then(f.part j).eH else(x.part j).eH⟩else x.part j,now:=if b3 then f.now else x.now}:=by
  rw[QV ab ab,Z8];unfold uw;rw[h0,h1,h2,h3]
 have tL:∀j k,j<4->(pv j).jM k->k<w.heap.size:=fun j k hj hk=>h.ja (Or.inr ⟨j,hj,hk⟩);have hge:∀k,(qc i).jM k->w.heap.size<=k:=fun k hk=>hn k (Or.inr ⟨i,hi,hk⟩);have kP:∀j k,j<4->(ya pv i (F9 b0 b1 b2 (pv i) (qc i)) j).jM k->(pv j).jM k\/(j=i/\w.heap.size<=k):=by
  intro j k hj hk;by_cases Ib:j=i
  ·subst Ib;rw[sr]at hk;rcases NC hk with e|e
   ·exact Or.inl e
   ·exact Or.inr ⟨rfl,hge k e⟩
  ·rw[mq pv _ Ib]at hk;exact Or.inl hk
 rw[hx];refine⟨ya pv i (F9 b0 b1 b2 (pv i) (qc i)),⟨h.low,?_,fun j hj=>?_,fun j l hj hl hjl k hkj ZM=>?_⟩,?_,?_⟩
 ·obtain⟨c0,c1,c2⟩:=wJ pv x.now hi;have e0:=zD hB.eG b0 (i*3) c0 (.pointer (some ⟨(qc i).b,0,none⟩));have e1:=zD e0 b1 (i*3+1) (old:=.pointer (some ⟨(pv i).k,0,none⟩)) (by rw[List.getElem?_set_ne ab];exact c1) (.pointer (some ⟨(qc i).k,0,none⟩));have e2:=zD e1 b2 (i*3+2) (old:=(pv i).cv) (by rw[List.getElem?_set_ne ab,List.getElem?_set_ne ab];exact c2) (qc i).cv
  have e3:=zD e2 b3 12 (old:=.int .i64 x.now) (by rw[List.getElem?_set_ne ab,List.getElem?_set_ne ab,List.getElem?_set_ne ab];exact MR pv x.now) (.int .i64 f.now);unfold O9;rw[e3]
  have s1:(((iz pv x.now).set (i*3) (if b0=true then .pointer (some ⟨(qc i).b,0,none⟩)else .pointer (some ⟨(pv i).b,0,none⟩))).set (i*3+1) (if b1=true then .pointer (some ⟨(qc i).k,0,none⟩)else .pointer (some ⟨(pv i).k,0,none⟩))).set (i*3+2) (if b2=true then(qc i).cv else(pv i).cv)=iz (ya pv i (F9 b0 b1 b2 (pv i) (qc i))) x.now:=by
   rw[<-yb pv x.now hi];unfold oX F9;cases b0<;>cases b1<;>rfl
  rw[s1];cases b3
  ·rw[ar ag,xn];rfl
  ·rw[aA rfl,xn];rfl
 ·by_cases Ib:j=i
  ·subst Ib;rw[sr];show eO base _ _ (if j=j then _ else _);rw[aA rfl];have hB':¬(qc j).jM B:=fun e=>by
    have a1:=hge B e;have a2:=h.lt;omega
   exact((hB.part j hj).fr cN hB.Qw (fun k hk e=>hB.zq hj (by have e':k=B:=e;rw[<-e'];exact hk))).take ((hc.part j hj).fr cN hB.Qw (fun k hk e=>hB' (by have e':k=B:=e;rw[<-e'];exact hk))) b0 b1 b2
  ·rw[mq pv _ Ib];show eO base _ _ (if j=i then _ else _);rw[ar Ib];exact(hB.part j hj).fr cN hB.Qw (fun k hk e=>hB.zq hj (by have e':k=B:=e;rw[<-e'];exact hk))
 ·rcases kP j k hj hkj with e|⟨e,he⟩
  ·rcases kP l k hl ZM with g|⟨g,hg⟩
   ·exact h.apart j l hj hl hjl k e g
   ·have:=tL j k hj e;omega
  ·rcases kP l k hl ZM with g|⟨g,hg⟩
   ·have:=tL l k hl g;omega
   ·exact hjl (e.trans g.symm)
 ·exact(hW.mono (T:=mr B pv) (fun _ _ h=>absurd h id)).step cN (fun k _ e=>Or.inl e)
 ·rintro k(rfl|⟨j,hj,hk⟩)
  ·exact Or.inl (Or.inl rfl)
  ·rcases kP j k hj hk with e|⟨_,e⟩
   ·exact Or.inl (Or.inr ⟨j,hj,e⟩)
   ·exact Or.inr e
theorem Y5{o:jB}(h:df w.heap.size U B pv x)(hf:Fr aW w U)(hi:nr x)(ht:kL w)(ho:gL U o hs) :
  aC 30 #[.pointer (some ⟨B,0,none⟩),.agg o.cells.toArray] U (fun e w'=>e=.returned (.agg #[.int .i64 (mX x (o.dP hs)).2.what,.string (mX x (o.dP hs)).2.head,.int .i64 (mX x (o.dP hs)).2.cert])/\dy w.heap.size U B pv (mX x (o.dP hs)).1 w') :=
 ady w.heap.size U B pv x o hs h ho hi w ht (ay _) hf
theorem fP.new:fP 0 xo:=⟨⟨gQ _,gQ _⟩,fun _ _=>⟨gQ _,gQ _⟩,fun _=>aS _,fun _=>aS _,nr.new,fun _ h=>by simp[xo,fN]at h,fun _ h=>by simp[xo,fN]at h⟩
theorem fP.mono{j:Int}(h:fP k t)(hk:k<=j):fP j t:={h with steps:=⟨h.steps.1,Int.le_trans h.steps.2 hk⟩,num:=fun p i=>⟨(h.num p i).1,Int.le_trans (h.num p i).2 hk⟩}
theorem Rb{f:Nat->Nat->Int}(h:∀p i,0<=f p i/\f p i<=k)(p i:Nat):0<=FV o f p i/\FV o f p i<=k+1:=by
 unfold FV;have:=h p i;split<;>omega
theorem fP.ends(h:fP k t)(n:Nat)(r:ky):fP k (mA t n r):=by
 unfold mA;refine⟨h.steps,h.num,fun m=>?_,fun m=>?_,h.inv,fun m=>?_,fun m=>?_⟩
 ·show(if m=n then fN else t.tab m).fails<=3;split
  ·exact aS _
  ·exact h.fails m
 ·show(if m=n then fN else t.tab m).does<=3;split
  ·exact aS _
  ·exact h.does m
 ·show(if m=n then fN else t.tab m).does=2\/(if m=n then fN else t.tab m).does=3->nr (if m=n then fN else t.tab m).seen;split
  ·intro e;simp[fN]at e
  ·exact h.seen m
 ·show(if m=n then fN else t.tab m).does≠0->_;split
  ·intro e;exact absurd rfl e
  ·rename_i hm;simp only[ar hm];exact h.ops m
theorem fP.put(h:fP k t)(n:Nat)(x:ux)(hf:x.fails<=3)(hd:x.does<=3)(hs:x.does=2\/x.does=3->nr x.seen)(ho:x.does≠0->x.op.user.size<=5000/\x.op.pass.size<=5000/\x.op.path.size<=5000):fP k (t.put n x):=by
 refine⟨h.steps,h.num,fun m=>?_,fun m=>?_,h.inv,fun m=>?_,fun m=>?_⟩
 ·show(if m=n then x else t.tab m).fails<=3;split
  ·exact hf
  ·exact h.fails m
 ·show(if m=n then x else t.tab m).does<=3;split
  ·exact hd
  ·exact h.does m
 ·show(if m=n then x else t.tab m).does=2\/(if m=n then x else t.tab m).does=3->nr (if m=n then x else t.tab m).seen;split
  ·exact hs
  ·exact h.seen m
 ·show(if m=n then x else t.tab m).does≠0->(if m=n then x else t.tab m).op.user.size<=5000/\(if m=n then x else t.tab m).op.pass.size<=5000/\(if m=n then x else t.tab m).op.path.size<=5000;split
  ·exact ho
  ·exact h.ops m
theorem fP.tick(h:fP k t):fP (k+1) {t with steps:=t.steps+1}:=by
 have g:=h.mono (show k<=k+1 from ab);exact{g with steps:=⟨by have:=h.steps.1;show 0<=t.steps+1;omega,by have:=h.steps.2;show t.steps+1<=k+1;omega⟩}
theorem fP.mM{k:Int}{t:gB}(h:fP k t)(n:Int)(o:kn)(ho:o.user.size<=5000/\o.pass.size<=5000/\o.path.size<=5000):fP (k+1) (uZ t n o).1:=by
 have g:=h.mono (show k<=k+1 from ab);unfold uZ;split
 ·split
  ·exact(h.put n.toNat {fN with does:=1,op:=o,mM:=t.steps+1} (aS _) (show 1<=3 from ag) (fun e=>by simp at e) (fun _=>ho)).tick
  ·exact g
 ·exact g
theorem fP.cancel(h:fP k t)(n:Int):fP (k+1) (qN t n).1:=by
 have g:=h.mono (show k<=k+1 from ab);unfold qN;split
 ·split
  ·exact g
  ·exact(h.put n.toNat fN (aS _) (aS _) (fun e=>by simp[fN]at e) (fun e=>absurd rfl e)).tick
 ·exact g
theorem fP.fail(h:fP k t)(n:Nat)(r:ky):fP k (mA (t.put n {t.tab n with fails:=m}) n r):=by
 have e:mA (t.put n {t.tab n with fails:=m}) n r=mA t n r:=by
  unfold mA gB.put;simp only[dY]
  congr 1
  funext i
  split
  ·rfl
  ·rfl
 rw[e];exact h.ends n r
theorem fP.adz(h:fP k t)(n:Nat)(hd:(t.tab n).does=3):fP (k+1) (jc t n).1:=by
 have g:=h.mono (show k<=k+1 from ab);unfold jc;split
 ·refine fP.ends ?_ n _;split
  ·exact{g with inv:=h.inv.take (h.seen n (Or.inr hd)) _ _,num:=Rb h.num}
  ·exact g
 ·split
  ·rename_i hf;exact g.put n _ hf (show 1<=3 from ag) (fun e=>by simp at e) (fun _=>h.ops n ab)
  ·exact g.fail n _
theorem fP.stepT{k:Int}{t:gB}(h:fP k t)(n:Nat)(h0:(t.tab n).does≠0):fP (k+2) (stepT t n).1:=by
 unfold Go.Proofs.YtjndhcngnghpiaaGreatDoor.stepT;split
 ·have q:=(h.put n {t.tab n with seen:=t.w,num:=t.num,does:=2} (h.fails n) (show 2<=3 from ag) (fun _=>h.inv) (fun _=>h.ops n h0)).tick;exact q.mono ab
 ·split
  ·rename_i h2;have q:=(h.put n {t.tab n with iI:=(mX (t.tab n).seen (t.tab n).op).2,seen:=(mX (t.tab n).seen (t.tab n).op).1,does:=3} (h.fails n) (show 3<=3 from ag) (fun _=>(h.seen n (Or.inl h2)).mX _ (h.ops n h0).1 (h.ops n h0).2.1 (h.ops n h0).2.2) (fun _=>h.ops n h0)).tick;exact q.mono ab
  ·have hd:(t.tab n).does=3:=by have:=h.does n;omega
   exact(h.tick.adz n hd).mono ab
theorem fP.step(h:fP k t)(n:Int):fP (k+2) (jO t n).1:=by
 have g:=h.mono (show k<=k+2 from ab);unfold jO;split
 ·split
  ·exact g
  ·rename_i h0;exact h.stepT _ h0
 ·exact g
theorem sD.fr{o:jB}(h:sD w o hs)(hf:Fr aW w w'):sD w' o hs:={h with aI:={h.aI with ef:=bG h.aI.ef hf}}
theorem H_(h:i<6):vX (i:Int)=true:=by
 unfold vX;simp only[cy,dx];omega
theorem aiY{T:Nat}(h:di xw a U T t)(i:Nat)(hi:i<6) :
  aC 11 #[.pointer (some ⟨T,0,none⟩),.int .i64 i] U fun e w'=>e=.returned (.int .i64 ((t.tab i).does:Nat))/\w'=U:=by
 obtain⟨B,g,sv,sb,h1,_⟩:=h.ex;have q:=V0 h1 (i:Int)
 rwa [show O0 t (i:Int)=(t.tab i).does by unfold O0;rw[H_ hi];rfl]at q
theorem Zv(o:kn)(hi:i<6)(h0:(t.tab i).does=0):uZ t i o=({(t.put i {fN with does:=1,op:=o,mM:=t.steps+1})with steps:=t.steps+1},0):=by
 unfold uZ;rw[H_ hi,aA rfl];exact aA h0
theorem V1{u:gB}(hi:i<6)(hu:(u.tab i).does≠0):jO u i=((stepT u i).1,(stepT u i).2.1,(stepT u i).2.2,0):=by
 unfold jO;rw[H_ hi,aA rfl];exact ar hu
section
variable {a U U' : World} {B C : Nat} {pv qv : Nat → dm} {x x' y : d_}
end
theorem nr.rf(h:nr x):∀i,i<4->(x.part i).bW.length<68719476736/\(x.part i).waits.length<68719476736/\(x.part i).book.length<1000000/\(x.part i).eH.length<=1000000:=fun i _=>by
 obtain⟨l1,l2,l3,l4⟩:=(h.ok.part i).rf;exact⟨ab,ab,ab,ab⟩
theorem Hv(t:gB)(n:Nat):(jc t n).1.fO.length<=t.fO.length+1:=by
 unfold jc;split
 ·split<;>simp[mA]
 ·split
  ·simp[gB.put]
  ·simp[mA,gB.put]
theorem yi(t:gB)(n:Int):(jO t n).1.fO.length<=t.fO.length+1:=by
 unfold jO;split
 ·split
  ·simp
  ·unfold stepT;split
   ·simp[gB.put]
   ·split
    ·simp[gB.put]
    ·exact Hv _ _
 ·simp
theorem F'(t:gB)(n:Int)(o:kn):(uZ t n o).1.fO=t.fO:=by
 unfold uZ;split
 ·split<;>rfl
 ·rfl
theorem Rr(t:gB)(n:Int):(qN t n).1.fO=t.fO:=by
 unfold qN;split
 ·split<;>rfl
 ·rfl
theorem VZ{xs:cU}{t:TypeId}(hx:∀x∈xs,x.length=22/\∀u∈x,u.oneCell'=true)(h:w.heap[n]?=some (.cells xs.flatten.toArray t (0,0)))(hm:m=xs.length)(hl:m<=4):eb 22 w (.slice (some ⟨n,0,none⟩) m m) xs:=by
 subst hm;refine⟨hx,Or.inr ⟨n,0,xs.length,rfl,ay _,fl,bg h,fun j x hj i u hi=>?_⟩⟩;simp only[World.cell?,h,bj];have key:∀(ys:cU),(∀z∈ys,z.length=22)->∀(j:Nat) (z:aX) (i:Nat) (u:Value),ys[j]?=some z->z[i]?=some u->ys.flatten[j*22+i]?=some u:=by
  intro ys
  induction ys with
  |nil=>intro _ j z i u hj;cases j<;>cases hj
  |cons y ys ih =>
   intro hy j z i u hj hi;rw[List.flatten_cons];have E_:=hy y (cR ..);cases j with
   |zero =>
    have e:y=z:=by simpa using hj
    subst e;have hil:=(List.getElem?_eq_some_iff.1 hi).1;rw[gY,bj,List.getElem?_append_left ab];exact hi
   |succ j =>
    rw[List.getElem?_append_right ab,show(j+1)*22+i-y.length=j*22+i from ab];exact ih (fun z hz=>hy z (bO _ hz)) j z i u (by simpa using hj) hi
 simpa using key xs (fun z hz=>(hx z hz).1) j x i u hj hi
theorem D3.one{t:TypeId}{o:jB}{ah:eZ}{ch:Nat}(h:sD w o hs)(hh:o.aI.ef=.slice ah hs.length ch)(hb:w.heap[n]?=some (.cells o.cells.toArray t (0,0))):D3 w (.slice (some ⟨n,0,none⟩) 1 1) [(o,hs)]:=by
 refine⟨VZ (xs:=[o.cells]) (fun x hx=>?_) (by simpa using hb) rfl ag,aQ,fun p hp=>?_⟩
 ·rw[cV]at hx;subst hx;exact⟨rfl,adP o hh⟩
 ·rw[cV]at hp;subst hp;exact h
theorem Gc(o:jB)(hs:List gU):D6 [(o,hs)]=!pZ (o,hs):=by
 unfold D6;simp
def air:jB:=⟨0,⟨0,⟨false,.empty,0⟩,⟨false,.empty,0⟩,.empty,.empty,.empty,.slice none 0 0,false,.empty⟩,false,.empty,.empty,.empty,.empty,0,false,0⟩
def zeroV:qo:=⟨air,[],.pointer none⟩
theorem O7(o:jB)(h:o.aI.ef.oneCell'=true):∀u∈o.cells,u.oneCell'=true:=by
 generalize hv:o.aI.ef.oneCell'=b at h;unfold jB.cells fX.cells;intro u hu;by_cases e:u=o.aI.ef
 ·rw[e,hv,h]
 ·simp only[List.cons_append,List.nil_append,bu,cg,dS,e,false_or]at hu;rcases hu with rfl|rfl|rfl|rfl|rfl|rfl|rfl|rfl|rfl|rfl|rfl|rfl|rfl|rfl|rfl|rfl|rfl|rfl|rfl|rfl|rfl<;>rfl
theorem zz(x:ux)(v:qo)(h:v.o.aI.ef.oneCell'=true)(hp:v.sp.oneCell'=true):(mN x v).toArray.all (·.oneCell')=true :=
 bU (by
  have ho:=O7 v.o h;intro u hu;unfold mN kM pW at hu;simp only[bu,bP,cg,dS]at hu;rcases hu with rfl|hu|hu
  ·rfl
  ·exact ho u hu
  ·rcases hu with rfl|rfl|rfl|hu
   ·rfl
   ·rfl
   ·exact hp
   ·rcases hu with hu|hu
    ·rcases hu with rfl|rfl|rfl|rfl|rfl|rfl|rfl|rfl|rfl|rfl|rfl|rfl|rfl|rfl|rfl|rfl<;>rfl
    ·rcases hu with rfl|rfl|rfl<;>rfl)
section
variable {xw : Option (Nat × d_)} {a U U' : World} {T : Nat} {t : gB}
theorem Q'(h:di xw a U T t)(hi:nr t.w) :
  aC 15 #[.pointer (some ⟨T,0,none⟩)] U (FR a.heap.size U t.w):=by
 obtain⟨B,g,sv,sb,h1,h2,h3,h4⟩:=h.ex;obtain⟨pv,hw⟩:=h2.at (i:=6) (B:=B) (x:=t.w) rfl;have HC:=O (AA _ _ _ _ _ hw hi.rf);have c:=h1.main;clear h h1 h2 h3 h4 hw hi;go_enter func15,ntmps15;go_wp2_with fail
 refine HC.o.mono ?_;rintro e u hu;obtain⟨N,qv,rfl,hc⟩:=hu;have HH:=O hc;clear hc;go_wp2;go_ret;exact⟨N,qv,rfl,HH.o⟩
end
theorem Ri{D:Nat}{qd:Nat->dm}{f:d_}(h:df base w B pv x)(hF:df base w D qd f)(hs:nr f)(part:Int){c:Nat}(hc:c=0\/c=1\/c=4\/c=7\/c=8\/c=10) :
  aC 54 #[.pointer (some ⟨B,0,none⟩),.pointer (some ⟨D,0,none⟩),.int .i64 part,.int .i64 c] w fun e w'=>e=.returned (.tuple #[])/\dy base w B pv (mz x f part c) w':=by
 have RV:=O (AA base w D qd f hF hs.rf);have HH:=O h;have uo:=h.lt;have oM:=O uo;have HC:=O hc;clear h hF hs hc;by_cases h0:part<0
 ·have h1:¬(0:Int)<=part:=ab;have HX:=O (show mz x f part c=x by unfold mz;rw[ar ab]);clear RV HC uo;go_enter func54,ntmps54;go_wp2
  try simp only[Exit.inBlock,Exit.then]
  refine aR (results_none rfl _ _ _) rfl ?_;rw[HX.o];exact⟨rfl,fq HH.o (ae _ _)⟩
 by_cases h4:4<=part
 ·have h1:(0:Int)<=part:=ab;have h5:¬part<4:=ab;have HX:=O (show mz x f part c=x by unfold mz;rw[ar ab]);clear RV HC uo;go_enter func54,ntmps54;go_wp2
  try simp only[Exit.inBlock,Exit.then]
  refine aR (results_none rfl _ _ _) rfl ?_;rw[HX.o];exact⟨rfl,fq HH.o (ae _ _)⟩
 obtain⟨i,hi,zS⟩:∃i:Nat,part=(i:Int)/\i<4:=⟨part.toNat,ab,ab⟩;subst hi;have Sk:(i:Int)<4:=ab;have ri:¬(i:Int)<0:=ab;have Tp:¬(4:Int)<=(i:Int):=ab;have P1:(0:Int)<=(i:Int):=ab;have sy:=O zS;clear h0 h4;go_enter func54,ntmps54;go_wp2_with fail
 refine RV.o.mono ?_;rintro e u⟨N,qc,rfl,hcw,hu,hn⟩;have HCW:=O hcw;have HN:=O hn;have HU:=O (show∀n,Fr aW u (u.drewN n)from fun n=>dE n (ae aW u));have HWU:=O hu;clear hcw hu hn RV;go_wp2_with fail
 go_quiet (fail);have uY:=HU.o nq;generalize u.drewN nq=u1 at uY ⊢;have Wx:=O (HCW.o.dt uY);have Lx:=O (HWU.o.trans uY);have hBN:¬B=N:=by have a1:=HN.o N (Or.inl rfl);omega
 have hNB:¬N=B:=fun e=>hBN e.symm;have htd:=fun(c:Nat) (b0 b1 b2 b3:Bool) (h0:c.testBit 0=b0) (h1:c.testBit 1=b1) (h2:c.testBit 2=b2) (h3:c.testBit 3=b3)=>Rh HH.o Lx.o Wx.o HN.o sy.o (part:=(i:Int)) rfl h0 h1 h2 h3;unfold O9 at htd;have hN:=Wx.o.partAt sy.o;have n0:=hN.cell0;have n1:=hN.gV;have n2:=hN.lU;have n3:u1.cell? ⟨N,12,none⟩=some (.int .i64 f.now):=by
  have j:=Wx.o.eG;simp only[World.cell?,j];rfl
 have hB:=(HH.o.dt Lx.o).partAt sy.o;have b0:=hB.cell0;have b1:=hB.gV;have b2:=hB.lU;have b3:u1.cell? ⟨B,12,none⟩=some (.int .i64 x.now):=by
  have j:=(HH.o.dt Lx.o).eG;simp only[World.cell?,j];rfl
 have f0:=hB.free (i*3);have f1:=hB.free (i*3+1);have f2:=hB.free (i*3+2);have f3:=hB.free 12;have aud:B<u1.heap.size:=bg hB.eG;have aue:N<u1.heap.size:=bg hN.eG;obtain⟨ca,ck,Lz⟩:=(Wx.o.part i sy.o).eH.form;rw[aj]at Lz;rw[Lz]at n2 htd;have HTD:=O htd;clear htd;obtain⟨cb,cl,hcg⟩:=((HH.o.dt Lx.o).part i sy.o).eH.form;rw[aj]at hcg;rw[hcg]at b2;clear hN hB uY Wx Lx HU HWU HN HCW HH Lz hcg uo
 rcases HC.o with rfl|rfl|rfl|rfl|rfl|rfl
 ·clear HC;go_wp2_with fail
  go_end0;exact⟨rfl,HTD.o _ false false false false ag ag ag ag⟩
 ·clear HC;go_wp2_with fail
  go_end0;exact⟨rfl,HTD.o _ true false false false ag ag ag ag⟩
 ·clear HC;go_wp2_with fail
  go_end0;exact⟨rfl,HTD.o _ false false true false ag ag ag ag⟩
 ·clear HC;go_wp2_with fail
  go_end0;exact⟨rfl,HTD.o _ true true true false ag ag ag ag⟩
 ·clear HC;go_wp2_with fail
  go_end0;exact⟨rfl,HTD.o _ false false false true ag ag ag ag⟩
 ·clear HC;go_wp2_with fail
  go_end0;exact⟨rfl,HTD.o _ false true false true ag ag ag ag⟩
def uN(m:sV):Bool:=pZ (m.o,m.hs)
def uD(ms:List sV):Bool:=decide (ms.length<=150)&&!(ms.any uN)
theorem zK.dt{m:sV}(h:zK w m)(hf:Fr aW w w'):zK w' m:={h with op:=h.op.fr hf}
theorem adY{m m':sV}(h:zK w m)(h':zK w m')(e:m.cells=m'.cells):uN m=uN m':=by
 unfold sV.cells at e;simp only[fA]at e;have:=VY (o:=(m.o,m.hs)) (o':=(m'.o,m'.hs)) h.op h'.op e.2.2;unfold uN;rw[this]
theorem NQ(m:sV)(w:World)(h:zK w m) :
  aC 24 #[.agg m.cells.toArray] w fun e w'=>e=.returned (.bool (uN m))/\Fr aW w w':=by
 obtain⟨kd,tb,o,hs⟩:=m;obtain⟨ah,ch,hh⟩:=dN h.op.aI.ef;rw[aj]at hh;obtain⟨i0,ri,oZ,kI,kS⟩:=info_parts VQ;obtain⟨y,hy⟩:∃y,y=sV.cells ⟨kd,tb,o,hs⟩:=⟨_,rfl⟩;obtain⟨x1,nz⟩:∃x1,x1=w.alloc (.cells y.toArray 50):=⟨_,rfl⟩;have dn:Fr aW w x1:=by rw[nz];exact(ae aW w).alloc _
 have k1:x1.heap[w.heap.size]?=some (.cells y.toArray 50 (0,0)):=by rw[nz];exact aB _ _
 have HR:=O (show x1.rangeAt w.heap.size 2 o.cells by
  intro j v hj;have e:(y.toArray)[2+j]?=some v:=by
   rw[hy,List.getElem?_toArray,Nat.add_comm];exact hj
  simp only[World.cell?,k1];exact e)
 obtain⟨x2,Oj⟩:∃x2,x2=x1.alloc (.cells o.cells.toArray 33):=⟨_,rfl⟩;have dD:Fr aW x1 x2:=by rw[Oj];exact(ae aW x1).alloc _
 have hoa:=h.op.fr (dn.trans dD);have Ck:=O (Ln _ _ x2 (D3.one hoa hh (n:=x1.heap.size) (by rw[Oj];exact aB _ _)));rw[Gc]at Ck;have Lk:Instr.fill (fun i=>some (i*i0.size,i0.size)) ((Array.range (1*i0.size)).map ((Value.agg zOp).cells[· %(Value.agg zOp).cells.size]!)) [(0,.agg o.cells.toArray)]=some o.cells.toArray:=by rw[kI,dV hh];exact adO o ah hs.length ch
 have Wg:=O nz;have HX2:=O Oj;have HF:=O (dn.trans dD);have T3:=O (show(prog.info? 33).map (·.size)=some o.cells.length from af);obtain⟨oc,GD⟩:∃oc,oc=o.cells:=⟨_,rfl⟩;rw[<-GD]at HR Lk HX2 T3;rw[<-hy];clear h hh dn dD k1 nz Oj hoa hy GD;unfold uN;go_enter func24,ntmps24
 go_wp2_with (first|((with_reducible refine dv 4 ?_);rw[<-Wg.o];refine a_ rfl 33 (.tmp 3) rfl w.heap.size 2 rfl oc _ HR.o underlying33 rfl T3.o ?_;refine xu rfl 37 33 1 _ rfl (some 5) rfl oc.toArray i0 (.agg zOp) [(0,.agg oc.toArray)] (by simp only[eA,cz,cY];rfl) underlying37 ri oZ (by rw[kI];decide) (by rw[kI];decide) Lk x1.heap.size rfl ?_)|fail)
 rw[<-HX2.o];refine Ck.o.mono ?_;rintro e u⟨rfl,hf⟩;go_wp2;go_ret;exact⟨ft aQ,HF.o.trans hf⟩
theorem Gd(v:Value)(ms:List sV)(w:World)(h:wh w v ms) :
  aC 7 #[v] w fun e w'=>e=.returned (.bool (uD ms))/\Fr aW w w':=by
 classical
 obtain⟨hv,hl,ha⟩:=h;obtain⟨av,cv,fT⟩:=hv.form;rw[aj]at fT;subst fT;obtain⟨p,hp⟩:∃p:aX->Bool,∀m∈ms,p m.cells=uN m:=⟨fun x=>decide (∃m∈ms,m.cells=x/\uN m=true),fun m hm=>by
  cases hq:uN m
  ·refine bB (fun⟨m',LL,e,FX⟩=>?_);rw[adY (ha m' LL) (ha m hm) e,hq]at FX;cases FX
  ·exact bK ⟨m,hm,rfl,hq⟩⟩
 have Lz:=O (BM _ #[] p _ _ w call24 (fun x hx u hu=>by
  obtain⟨m,hm,rfl⟩:=cj.1 hx;rw[hp m hm];simpa using NQ m u ((ha m hm).dt hu)) hv)
 have iX:=O (show(ms.map sV.cells).any p=ms.any uN by
  rw[List.any_map];clear Lz hv hl
  induction ms with
  |nil=>rfl
  |cons m ms ih =>
   rw[List.any_cons,List.any_cons,ih (fun x hx=>ha x (bO _ hx)) (fun x hx=>hp x (bO _ hx))];show(p m.cells||_)=_;rw[hp m (cR ..)])
 clear hp ha hv;by_cases h30:ms.length<=150
 ·have hb:=O (show uD ms=!(ms.any uN)by unfold uD;rw[bK h30];rfl);have i30:(ms.length:Int)<=150:=ab;have d30:decide ((ms.length:Int)<=150)=true:=bK i30;go_enter func7,ntmps7;go_wp2_with fail
  refine Lz.o.mono ?_;rw[iX.o];rintro e u⟨rfl,hf⟩;go_wp2;go_ret;exact⟨ft hb.o.symm,hf⟩
 ·have hb:=O (show uD ms=false by unfold uD;rw[bB h30];rfl);have i30:¬(ms.length:Int)<=150:=ab;have d30:decide ((ms.length:Int)<=150)=false:=bB i30;go_enter func7,ntmps7;go_wp2;go_ret;exact⟨ft hb.o.symm,ae _ _⟩
theorem uC.of{v:Value}{ms:List sV}(h:wh w v ms)(hb:uD ms=true):uC w v ms/\ms.length<=150:=by
 unfold uD at hb;simp only[cy,dx,Bool.not_eq_true',eT]at hb;exact⟨⟨h.1,fun m hm=>gL.aiW (h.2.2 m hm).op (by have:=hb.2 m hm;unfold uN at this;simpa using this)⟩,hb.1⟩
section
variable {xw : Option (Nat × d_)} {a U U' : World} {T : Nat} {t : gB}
theorem Nx(h:di xw a U T t)(n:Int)(hk:k<1000000)(hs:fP k t) :
  aC 17 #[.pointer (some ⟨T,0,none⟩),.int .i64 n] U fun e w'=>e=.returned (zy (qN t n).2)/\di xw a w' T (qN t n).1/\gH U w':=by
 unfold qN;cases hn:vX n
 ·have HC:=O (Hh U T hn);have HH:=O h;clear hn h hs;go_enter func17,ntmps17;go_wp2_with fail
  refine HC.o.mono ?_;rintro e u⟨rfl,rfl⟩;unfold zy;go_wp2;go_ret;exact⟨rfl,HH.o,ld _⟩
 ·obtain⟨i,rfl,hi⟩:=Ca hn;obtain⟨B,g,sv,sb,h1,h2,h3,h4⟩:=h.ex;have HC:=O (Ng U T hi);have c:U.cell? ⟨T,17+i*45,none⟩=some (.int .i64 (t.tab i).does):=h1.tab i hi 0 _ rfl;have c2:=h1.steps;have fz:=h1.free 287;have e1:((i:Int)).toNat=i:=rfl;rw[aA rfl,e1];by_cases hd:(t.tab i).does=0
  ·rw[aA hd];rw[hd]at c;have HH:=O h;clear hn h hs h1 h2 h3 h4;go_enter func17,ntmps17;go_wp2_with fail
   refine HC.o.mono ?_;rintro e u⟨rfl,rfl⟩;go_wp2;go_ret;exact⟨rfl,HH.o,ld _⟩
  ·rw[ar hd];have hd0:¬((t.tab i).does:Int)=0:=ab;have s1:=hs.steps.1;have s2:=hs.steps.2;have q1:=h1.DK (t.steps+1);have HT:=O (q1.1.there (o:=17+i*45) (n:=45) ab);have q2:=q1.1.Nf hi fN zeroV
   have HR:=O (kp (t':={(t.put i fN)with steps:=t.steps+1}) h1 h2 h3 h4 h.low h.fr ⟨q2.1,q1.2.trans q2.2⟩ rfl (Ni (t':={(t.put i fN)with steps:=t.steps+1}) rfl i (fun n hn=>ar hn) (by simp[gB.put,fN]) (by simp[gB.put,fN])) (fun j hj=>by
    by_cases ei:j=i
    ·subst ei;simp[gB.put,fN]
    ·simp only[gB.put,ar ei];exact⟨fun vN=>Or.inl ⟨trivial,trivial,trivial,vN⟩,(h4 j hj).2⟩))
   have Ww:=O (show gH U _ from by
    obtain⟨d,hd,_⟩:=h1.eG;exact(ld U).tabs hd (q1.2.trans q2.2))
   clear hn h hs h1 h2 h3 h4 q1 q2;go_enter func17,ntmps17;go_wp2_with fail
   refine HC.o.mono ?_;rintro e u⟨rfl,rfl⟩;go_wp2_with ((with_reducible refine cP 75 ?_);refine hZ rfl 75 _ _ rfl T (17+i*45) (mN fN zeroV).toArray rfl rfl HT.o rfl (zz _ _ rfl rfl) ?_)
   go_ret;exact⟨rfl,HR.o,Ww.o⟩
end
