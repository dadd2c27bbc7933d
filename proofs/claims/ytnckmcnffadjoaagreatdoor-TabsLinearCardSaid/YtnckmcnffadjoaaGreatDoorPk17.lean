/- Lemmas for the law's walk. -/
import Derived.Test.YtnckmcnffadjoaaGreatDoorPk26
import Derived.Test.YtnckmcnffadjoaaGreatDoorPk25
import Derived.Test.YtnckmcnffadjoaaGreatDoorPk27
set_option maxRecDepth 100000
set_option maxHeartbeats 16000000
set_option linter.unusedSimpArgs false
namespace Go.Proofs.YtnckmcnffadjoaaGreatDoor
open Go.Proofs.Tryz
open Go.RowKit
variable {t t':fB} {s x:dD} {f:Nat->Nat->Int} {n m k p i b T j base B:Nat} {o:iE} {w U w':World} {u v:Value} {S:dF} {cs:aZ} {c:bT}
theorem XJ(p:dR)(now:Int)(o:iE):(sJ p now o).2.what≠6:=by
 have k1:(1:Int)≠6:=ag;have k2:(2:Int)≠6:=ag;have k3:(3:Int)≠6:=ag;have k7:(7:Int)≠6:=ag;unfold sJ;split
 ·unfold iA;split
  ·(first|exact k2|exact k1|exact k3|exact k7)
  ·split<;>(first|exact k2|exact k1|exact k3|exact k7)
 ·split
  ·unfold fP;split
   ·(first|exact k2|exact k1|exact k3|exact k7)
   ·split
    ·split<;>(first|exact k2|exact k1|exact k3|exact k7)
    ·(first|exact k2|exact k1|exact k3|exact k7)
  ·split
   ·unfold gi;split<;>(first|exact k2|exact k1|exact k3|exact k7)
   ·split
    ·show(if _ then(5:Int)else 4)≠6;split<;>decide
    ·split
     ·unfold gU;split
      ·(first|exact k2|exact k1|exact k3|exact k7)
      ·split<;>(first|exact k2|exact k1|exact k3|exact k7)
     ·split
      ·unfold Hc;split<;>(first|exact k2|exact k1|exact k3|exact k7)
      ·split
       ·unfold jY;split<;>(first|exact k2|exact k1|exact k3|exact k7)
       ·unfold pG;split
        ·(first|exact k2|exact k1|exact k3|exact k7)
        ·split<;>(first|exact k2|exact k1|exact k3|exact k7)
theorem MR(w:dD)(o:iE):(iK w o).2.what≠6:=by
 have k1:(1:Int)≠6:=ag;have k7:(7:Int)≠6:=ag;cases hr:o.right
 ·rw[tA hr];exact k7
 ·by_cases hw:o.what=10
  ·rw[sg hr hw];split<;>(first|exact k1|exact k7)
  ·rw[qE hr hw];exact XJ _ _ _
structure oB (t:fB):Prop where
 lin:t.w=vp t.cU
 ok:∀k e,t.cU[k]?=some e->e.ec.what≠6->(iK (vp (t.cU.take k)) e.op).2=e.ec
 read:∀n,(t.tab n).does=2->vW t (t.tab n).seen (t.tab n).num
 work:∀n,(t.tab n).does=3->∃s,vW t s (t.tab n).num/\(t.tab n).seen=(iK s (t.tab n).op).1/\(t.tab n).ec=(iK s (t.tab n).op).2
theorem oB.new:oB sq:=⟨rfl,fun k e h=>(by cases h),fun n h=>(by cases h),fun n h=>(by cases h)⟩
theorem vW.same(h:vW t s f)(hw:t'.w=t.w)(hn:t'.num=t.num):vW t' s f:=by
 unfold vW at h ⊢;rw[hw,hn];exact h
theorem oB.quiet{t t':fB}(h:oB t)(hw:t'.w=t.w)(hn:t'.num=t.num)(hs:t'.cU=t.cU)(m:Nat)(hm:∀n,n≠m->t'.tab n=t.tab n)
  (hr:(t'.tab m).does=2->vW t (t'.tab m).seen (t'.tab m).num)(hk:(t'.tab m).does=3->∃s,vW t s (t'.tab m).num/\(t'.tab m).seen=(iK s (t'.tab m).op).1/\(t'.tab m).ec=(iK s (t'.tab m).op).2):oB t':=by
 refine⟨by rw[hw,hs];exact h.lin,by rw[hs];exact h.ok,fun n hd=>?_,fun n hd=>?_⟩
 ·by_cases e:n=m
  ·subst e;exact(hr hd).same hw hn
  ·rw[hm n e]at hd ⊢; exact(h.read n hd).same hw hn
 ·by_cases e:n=m
  ·subst e;obtain⟨s,g1,g2⟩:=hk hd;exact⟨s,g1.same hw hn,g2⟩
  ·rw[hm n e]at hd ⊢; obtain⟨s,g1,g2⟩:=h.work n hd;exact⟨s,g1.same hw hn,g2⟩
theorem gz(t:fB)(n:Nat)(x:vo):(t.put n x).tab n=x:=by unfold fB.put;simp
theorem iC(t:fB)(x:vo)(h:m≠n):(t.put n x).tab m=t.tab m:=by unfold fB.put;simp[h]
theorem vW.now(t:fB):vW t t.w t.num:=fun _ _=>⟨fM _,fun _ _=>sr.refl _ _ _⟩
theorem vW.bump(h:vW t s f)(hw:t'.w=(iK t.w o).1)(hn:t'.num=AD o t.num):vW t' s f:=by
 intro p i;rw[hw,hn];unfold AD;obtain⟨h1,h2⟩:=h p i;split
 ·exact⟨ab,fun e=>ab⟩
 ·rename_i hni;exact⟨h1,fun e hi=>(h2 e hi).trans (OY t.w o hi hni)⟩
theorem mT(t:fB)(n:Nat)(r:kt)(h:m≠n):(ja t n r).tab m=t.tab m:=by unfold ja;simp[h]
theorem po(t:fB)(n:Nat)(r:kt):(ja t n r).tab n=fo:=by unfold ja;simp
theorem take_len{α:Type}(l:List α)(e:α){x:α}(h:(l++[e])[k]?=some x):(l[k]?=some x/\(l++[e]).take k=l.take k)\/(k=l.length/\x=e/\(l++[e]).take k=l):=by
 rcases eS k l.length with hk|hk
 ·left;rw[List.getElem?_append_left hk]at h;exact⟨h,by rw[List.take_append_of_le_length (Nat.le_of_lt hk)]⟩
 ·right;rw[List.getElem?_append_right hk]at h;have JZ:k-l.length=0:=by
   rcases Nat.eq_zero_or_pos (k-l.length)with e0|e0
   ·exact e0
   ·rw[List.getElem?_eq_none bH]at h;cases h
  rw[JZ]at h;have e1:e=x:=by simpa using h
  have e2:k=l.length:=ab;subst e2;exact⟨rfl,e1.symm,aR⟩
theorem oB.Pn(h:oB t)(hs:vW t s (t.tab n).num)(ak3:(t.tab n).seen=(iK s (t.tab n).op).1)(aqH:(t.tab n).ec=(iK s (t.tab n).op).2)(hv:vF (t.tab n).op t.num=vF (t.tab n).op (t.tab n).num) :
  oB (ja (if(cO (t.tab n).op).2 then{t with w:=kh t.w (t.tab n).seen (t.tab n).op.part (cO (t.tab n).op).1,num:=AD (t.tab n).op t.num}else t) n (t.tab n).ec):=by
 obtain⟨a1,a2⟩:=SR (hs.agree hv);have ac8:(t.tab n).ec=(iK t.w (t.tab n).op).2:=aqH.trans a1;have h6:(t.tab n).ec.what≠6:=by rw[ac8];exact MR _ _
 have XK:∀t':fB,t'.cU=t.cU->t'.tab=t.tab->t'.steps=t.steps->(ja t' n (t.tab n).ec).cU=t.cU++[⟨n,(t.tab n).op,(t.tab n).ec,(t.tab n).iG,t.steps⟩]:=fun t' e1 e2 e3=>by unfold ja;rw[e1,e2,e3]
 have Bm:∀k e,(t.cU++[(⟨n,(t.tab n).op,(t.tab n).ec,(t.tab n).iG,t.steps⟩:ua)])[k]?=some e->e.ec.what≠6->(iK (vp ((t.cU++[(⟨n,(t.tab n).op,(t.tab n).ec,(t.tab n).iG,t.steps⟩:ua)]).take k)) e.op).2=e.ec:=by
  intro k e he hne;rcases take_len _ _ he with ⟨h1,h2⟩|⟨_,rfl,h2⟩
  ·rw[h2];exact h.ok k e h1 hne
  ·rw[h2, <-h.lin];exact ac8.symm
 cases hwr:(cO (t.tab n).op).2
 ·rw[aq ag];refine⟨?_,?_,fun m hd=>?_,fun m hd=>?_⟩
  ·rw[XK t rfl rfl rfl,xH,aq h6, <-h.lin,OX hwr];rfl
  ·rw[XK t rfl rfl rfl];exact Bm
  ·by_cases e:m=n
   ·subst e;rw[po]at hd;cases hd
   ·rw[mT _ _ _ e]at hd ⊢; exact(h.read m hd).same rfl rfl
  ·by_cases e:m=n
   ·subst e;rw[po]at hd;cases hd
   ·rw[mT _ _ _ e]at hd ⊢; obtain⟨s',g1,g2⟩:=h.work m hd;exact⟨s',g1.same rfl rfl,g2⟩
 ·rw[az rfl];have hw':kh t.w (t.tab n).seen (t.tab n).op.part (cO (t.tab n).op).1=(iK t.w (t.tab n).op).1:=by rw[ak3];exact a2 hwr
  refine⟨?_,?_,fun m hd=>?_,fun m hd=>?_⟩
  ·show kh t.w _ _ _=vp (t.cU++[_]);rw[xH,aq h6, <-h.lin];exact hw'
  ·exact Bm
  ·by_cases e:m=n
   ·subst e;rw[po]at hd;cases hd
   ·rw[mT _ _ _ e]at hd ⊢; exact(h.read m hd).bump (o:=(t.tab n).op) hw' rfl
  ·by_cases e:m=n
   ·subst e;rw[po]at hd;cases hd
   ·rw[mT _ _ _ e]at hd ⊢; obtain⟨s',g1,g2⟩:=h.work m hd;exact⟨s',g1.bump (o:=(t.tab n).op) hw' rfl,g2⟩
theorem oB.busy(h:oB t)(n:Nat)(x:vo):oB (ja (t.put n x) n (rep 6)):=by
 obtain⟨e0,h0,h6⟩:∃e0,(ja (t.put n x) n (rep 6)).cU=t.cU++[e0]/\e0.ec.what=6:=⟨_,rfl,rfl⟩;refine⟨?_,?_,fun m hd=>?_,fun m hd=>?_⟩
 ·rw[h0,xH,az h6];exact h.lin
 ·rw[h0];intro k e he hne;rcases take_len _ _ he with ⟨h1,h2⟩|⟨_,rfl,h2⟩
  ·rw[h2];exact h.ok k e h1 hne
  ·exact absurd h6 hne
 ·by_cases e:m=n
  ·subst e;rw[po]at hd;cases hd
  ·rw[mT _ _ _ e,iC _ _ e]at hd ⊢; exact(h.read m hd).same rfl rfl
 ·by_cases e:m=n
  ·subst e;rw[po]at hd;cases hd
  ·rw[mT _ _ _ e,iC _ _ e]at hd ⊢; obtain⟨s',g1,g2⟩:=h.work m hd;exact⟨s',g1.same rfl rfl,g2⟩
theorem oB.tick(h:oB t)(k:Int):oB {t with steps:=k}:=⟨h.lin,h.ok,h.read,h.work⟩
theorem oB.step(h:oB t)(hd:(t.tab n).does=1\/(t.tab n).does=2\/(t.tab n).does=3):oB (stepT t n).1:=by
 unfold stepT;by_cases h1:(t.tab n).does=1
 ·rw[az h1];refine h.quiet rfl rfl rfl n (fun m e=>iC t _ e) (fun _=>?_) (fun e=>?_)
  ·show vW t ((t.put n _).tab n).seen ((t.put n _).tab n).num;rw[gz];exact vW.now t
  ·rw[show({(t.put n {t.tab n with seen:=t.w,num:=t.num,does:=2})with steps:=t.steps+1}:fB).tab n=_ from gz t n _]at e;cases e
 rw[aq h1];by_cases h2:(t.tab n).does=2
 ·rw[az h2];refine h.quiet rfl rfl rfl n (fun m e=>iC t _ e) (fun e=>?_) (fun _=>?_)
  ·rw[show({(t.put n {t.tab n with ec:=(iK (t.tab n).seen (t.tab n).op).2,seen:=(iK (t.tab n).seen (t.tab n).op).1,does:=3})with steps:=t.steps+1}:fB).tab n=_ from gz t n _]at e;cases e
  ·rw[show({(t.put n {t.tab n with ec:=(iK (t.tab n).seen (t.tab n).op).2,seen:=(iK (t.tab n).seen (t.tab n).op).1,does:=3})with steps:=t.steps+1}:fB).tab n=_ from gz t n _];exact⟨(t.tab n).seen,h.read n h2,rfl,rfl⟩
 rw[aq h2];have h3:(t.tab n).does=3:=ab;obtain⟨s,g1,g2,g3⟩:=h.work n h3;unfold iB;have ht:=h.tick (t.steps+1);split
 ·rename_i hv;exact ht.Pn (n:=n) (s:=s) (g1.same rfl rfl) g2 g3 hv
 ·split
  ·refine ht.quiet rfl rfl rfl n (fun m e=>iC _ _ e) (fun e=>?_) (fun e=>?_)
   ·rw[gz]at e;cases e
   ·rw[gz]at e;cases e
  ·exact ht.busy n _
def xj(t:fB):Prop:=∀n,(t.tab n).does<=3
theorem xj.new:xj sq:=fun _=>aL _
theorem xj.put(h:xj t)(n:Nat){x:vo}(hx:x.does<=3):xj (t.put n x):=fun m=>by
 by_cases e:m=n
 ·subst e;rw[gz];exact hx
 ·rw[iC _ _ e];exact h m
theorem xj.ends(h:xj t)(n:Nat)(r:kt):xj (ja t n r):=fun m=>by
 by_cases e:m=n
 ·subst e;rw[po];exact aL _
 ·rw[mT _ _ _ e];exact h m
theorem xj.step(h:xj t)(n:Nat):xj (stepT t n).1:=by
 unfold stepT;split
 ·exact fun m=>h.put n (x:={t.tab n with seen:=t.w,num:=t.num,does:=2}) (show 2<=3 from ag) m
 ·split
  ·exact fun m=>h.put n (x:={t.tab n with ec:=(iK (t.tab n).seen (t.tab n).op).2,seen:=(iK (t.tab n).seen (t.tab n).op).1,does:=3}) (show 3<=3 from ag) m
  ·unfold iB;split
   ·split
    ·exact xj.ends (t:={t with steps:=t.steps+1,w:=_,num:=_}) h n _
    ·exact xj.ends (t:={t with steps:=t.steps+1}) h n _
   ·split
    ·exact fun m=>h.put n (x:={t.tab n with fails:=(t.tab n).fails+1,does:=1}) (show 1<=3 from ag) m
    ·exact xj.ends (xj.put (t:={t with steps:=t.steps+1}) h n (x:={t.tab n with fails:=(t.tab n).fails+1}) (h n)) n _
def p_(t:fB):Prop:=oB t/\xj t
theorem p_.begin(h:p_ t)(n:Int)(o:iE):p_ (za t n o).1:=by
 unfold za;split
 ·split
  ·refine⟨h.1.quiet rfl rfl rfl n.toNat (fun m e=>iC t _ e) (fun e=>?_) (fun e=>?_),fun m=>h.2.put n.toNat (x:={fo with does:=1,op:=o,iG:=t.steps+1}) (show 1<=3 from ag) m⟩
   ·rw[show({(t.put n.toNat {fo with does:=1,op:=o,iG:=t.steps+1})with steps:=t.steps+1}:fB).tab n.toNat=_ from gz t _ _]at e;cases e
   ·rw[show({(t.put n.toNat {fo with does:=1,op:=o,iG:=t.steps+1})with steps:=t.steps+1}:fB).tab n.toNat=_ from gz t _ _]at e;cases e
  ·exact h
 ·exact h
theorem p_.cancel(h:p_ t)(n:Int):p_ (nU t n).1:=by
 unfold nU;split
 ·split
  ·exact h
  ·refine⟨h.1.quiet rfl rfl rfl n.toNat (fun m e=>iC t _ e) (fun e=>?_) (fun e=>?_),fun m=>h.2.put n.toNat (x:=fo) (show 0<=3 from ag) m⟩
   ·rw[show({(t.put n.toNat fo)with steps:=t.steps+1}:fB).tab n.toNat=_ from gz t _ _]at e;cases e
   ·rw[show({(t.put n.toNat fo)with steps:=t.steps+1}:fB).tab n.toNat=_ from gz t _ _]at e;cases e
 ·exact h
theorem p_.step(h:p_ t)(n:Int):p_ (lC t n).1:=by
 unfold lC;split
 ·split
  ·exact h
  ·rename_i hd;have:=h.2 n.toNat;exact⟨h.1.step ab,h.2.step n.toNat⟩
 ·exact h
theorem p_.move(h:p_ t)(m:J_):p_ (oz t m):=by
 unfold oz;split
 ·exact h.begin _ _
 ·split
  ·exact h.cancel _
  ·split
   ·exact h.step _
   ·exact h
structure tF where
 kind:Int
 tab:Int
 o:jO
 hs:List ig
def tF.cells(m:tF):aZ:=.int .i64 m.kind :: .int .i64 m.tab :: m.o.cells
structure rC where
 o:jO
 hs:List ig
 sp:Value
def pC(r:kt):aZ:=[.int .i64 r.what,.string r.head,.int .i64 r.cert]
def lu(f:Nat->Nat->Int):aZ:=[.int .i64 (f 0 0),.int .i64 (f 0 1),.int .i64 (f 0 2),.int .i64 (f 0 3),.int .i64 (f 1 0),.int .i64 (f 1 1),.int .i64 (f 1 2),.int .i64 (f 1 3),.int .i64 (f 2 0),.int .i64 (f 2 1),.int .i64 (f 2 2),.int .i64 (f 2 3),.int .i64 (f 3 0),.int .i64 (f 3 1),.int .i64 (f 3 2),.int .i64 (f 3 3)]
def nj(x:vo)(v:rC):aZ:=.int .i64 x.does :: (v.o.cells++(.int .i64 x.fails :: .int .i64 x.iG :: v.sp :: (lu x.num++pC x.ec)))
theorem qG(x:vo)(v:rC):(nj x v).length=45:=rfl
theorem nK(f:Nat->Nat->Int):(lu f).length=16:=rfl
theorem QS(f:Nat->Nat->Int)(hp:p<4)(hi:i<4):(lu f)[p*4+i]?=some (.int .i64 (f p i)):=by
 rcases(show p=0\/p=1\/p=2\/p=3 from ab)with rfl|rfl|rfl|rfl<;>rcases(show i=0\/i=1\/i=2\/i=3 from ab)with rfl|rfl|rfl|rfl<;>rfl
structure gD (U:World) (T B:Nat) (g:Nat->rC) (sv:Value) (t:fB):Prop where
 eN:∃cs,U.heap[T]?=some (.cells cs 75 (0,0))/\cs.size=289
 main:U.cell? ⟨T,0,none⟩=some (.pointer (some ⟨B,0,none⟩))
 num:U.rangeAt T 1 (lu t.num)
 tab:∀n,n<6->U.rangeAt T (17+n*45) (nj (t.tab n) (g n))
 steps:U.cell? ⟨T,287,none⟩=some (.int .i64 t.steps)
 st:U.cell? ⟨T,288,none⟩=some sv
section
variable {U U' : World} {T B : Nat} {g : Nat → rC} {sv : Value} {t : fB}
theorem og{p:Addr}(h:w.cell? p=some u)(hf:Fr S w U)(hn:¬S p.block):U.cell? p=some u:=by
 unfold World.cell? at h ⊢;cases hb:w.heap[p.block]? with
 |none=>rw[hb]at h;cases h
 |some o=>rw[hb]at h;rw[hf.keep hb hn];exact h
theorem ql{o:Nat}(h:w.rangeAt b o cs)(hf:Fr S w U)(hn:¬S b):U.rangeAt b o cs:=fun j v hv=>og (h j v hv) hf hn
theorem gD.fr(h:gD U T B g sv t)(hf:Fr S U U')(hn:¬S T):gD U' T B g sv t:=by
 obtain⟨cs,hb,hs⟩:=h.eN;exact⟨⟨cs,hf.keep hb hn,hs⟩,og h.main hf hn,ql h.num hf hn,fun n hl=>ql (h.tab n hl) hf hn,og h.steps hf hn,og h.st hf hn⟩
theorem gD.lt(h:gD U T B g sv t):T<U.heap.size:=by obtain⟨cs,hb,_⟩:=h.eN;exact bq hb
theorem gD.there(h:gD U T B g sv t){o:Nat}(hn:o+n<=289):U.there T o n:=by
 obtain⟨cs,hb,hs⟩:=h.eN;intro j hj;have hl:o+j<cs.size:=ab;exact⟨by simp[World.cell?,hb,hl],by simp[World.frozen?,hb]⟩
theorem gD.free(h:gD U T B g sv t)(k:Nat):U.frozen? ⟨T,k,none⟩=false:=by
 obtain⟨cs,hb,_⟩:=h.eN;simp[World.frozen?,hb]
theorem lY(T:Nat)(ty:TypeId)(n:Nat):∀(vs:aZ) (o:Nat) (U:World),(∃cs,U.heap[T]?=some (.cells cs ty (0,0))/\cs.size=n)->∃cs,(U.setCells T o vs).heap[T]?=some (.cells cs ty (0,0))/\cs.size=n
 |[],_,_,h=>h
 |v :: r,o,U,⟨cs,hb,hs⟩=>by
  rw[World.setCells];exact lY T ty n r (o+1) _ ⟨_,cq hb o v,by simpa using hs⟩
theorem mQ{a:World}(T:Nat):∀(vs:aZ) (o:Nat) (U:World),Fr (one T) a U->Fr (one T) a (U.setCells T o vs)
 |[],_,_,h=>h
 |v :: r,o,U,h=>by
  rw[World.setCells];exact mQ T r (o+1) _ (h.setCell (p:=⟨T,o,none⟩) (fun _=>rfl) v)
theorem eZ{o:Nat}{vs:aZ}(h:U.cell? ⟨T,k,none⟩=some u)(Ze:k<o\/o+vs.length<=k):(U.setCells T o vs).cell? ⟨T,k,none⟩=some u:=by
 rw[World.cell?_setCells_out T vs o U ⟨T,k,none⟩ (fun _ _=>Ze)];exact h
theorem gD.OZ(h:gD U T B g sv t)(hn:n<6)(x:vo)(v:rC):gD (U.setCells T (17+n*45) (nj x v)) T B (fun i=>if i=n then v else g i) sv (t.put n x)/\Fr (one T) U (U.setCells T (17+n*45) (nj x v)):=by
 have hl:=qG x v;refine⟨⟨lY T _ _ _ _ _ h.eN,eZ h.main (Or.inl ab),cg h.num _ _ _ (Or.inr (Or.inl (by rw[nK];omega))),fun m hm=>?_,eZ h.steps (Or.inr ab),eZ h.st (Or.inr ab)⟩,mQ T _ _ _ (ae _ _)⟩;by_cases e:m=n
 ·subst e;show World.rangeAt _ T (17+m*45) (nj (if m=m then x else t.tab m) (if m=m then v else g m));rw[az rfl,az rfl];exact World.rangeAt_setCells_same _ _ _ _ (h.there (by rw[hl];omega))
 ·show World.rangeAt _ T (17+m*45) (nj (if m=n then x else t.tab m) (if m=n then v else g m));rw[aq e,aq e];exact cg (h.tab m hm) _ _ _ (by
   right;rw[hl,qG];rcases eS m n with q|q
   ·left;omega
   ·right;omega)
theorem Hs{o:Nat}(h:U.rangeAt T o cs)(hj:j<cs.length):(U.setCell ⟨T,o+j,none⟩ v).rangeAt T o (cs.set j v):=by
 intro k u hk;have hc:=h j _ (List.getElem?_eq_getElem hj);by_cases e:k=j
 ·subst e;rw[List.getElem?_set_self hj]at hk;cases hk;exact World.cell?_setCell_same' U ⟨T,o+k,none⟩ _ (by rw[hc];rfl)
 ·rw[List.getElem?_set_ne (lj e)]at hk;rw[World.cell?_setCell_other U ⟨T,o+j,none⟩ ⟨T,o+k,none⟩ v (fun q=>e (by injection q with q1 q2;omega))];exact h k u hk
theorem gD.Db(h:gD U T B g sv t)(hn:n<6)(hj:j<45)(v:Value){x:vo}{w:rC}(hx:(nj (t.tab n) (g n)).set j v=nj x w):gD (U.setCell ⟨T,17+n*45+j,none⟩ v) T B (fun i=>if i=n then w else g i) sv (t.put n x)/\Fr (one T) U (U.setCell ⟨T,17+n*45+j,none⟩ v):=by
 have hl:([v]:aZ).length=1:=rfl;refine⟨⟨lY T _ _ [v] _ _ h.eN,eZ (vs:=[v]) h.main (Or.inl ab),cg h.num T (17+n*45+j) [v] (Or.inr (Or.inl (by rw[nK];omega))),fun m hm=>?_,eZ (vs:=[v]) h.steps (Or.inr ab),eZ (vs:=[v]) h.st (Or.inr ab)⟩,mQ T [v] _ _ (ae _ _)⟩;by_cases e:m=n
 ·subst e;show World.rangeAt _ T (17+m*45) (nj (if m=m then x else t.tab m) (if m=m then w else g m));rw[az rfl,az rfl, <-hx];exact Hs (h.tab m hm) (by rw[qG];exact hj)
 ·show World.rangeAt _ T (17+m*45) (nj (if m=n then x else t.tab m) (if m=n then w else g m));rw[aq e,aq e];exact cg (h.tab m hm) T (17+n*45+j) [v] (by
   right;rw[hl,qG];rcases eS m n with q|q
   ·left;omega
   ·right;omega)
theorem gD.ES(h:gD U T B g sv t)(k:Int):gD (U.setCell ⟨T,287,none⟩ (.int .i64 k)) T B g sv {t with steps:=k}/\Fr (one T) U (U.setCell ⟨T,287,none⟩ (.int .i64 k)):=by
 refine⟨⟨lY T _ _ [_] _ _ h.eN,eZ (vs:=[_]) h.main (Or.inl ag),cg h.num T 287 [_] (Or.inr (Or.inl (by rw[nK];decide))),fun m hm=>cg (h.tab m hm) T 287 [_] (Or.inr (Or.inl (by rw[qG];omega))),?_,eZ (vs:=[_]) h.st (Or.inr (ay _))⟩,mQ T [_] _ _ (ae _ _)⟩;exact World.cell?_setCell_same' U ⟨T,287,none⟩ _ (by rw[h.steps];rfl)
theorem gD.WZ(h:gD U T B g sv t)(v:Value)(s:List ua):gD (U.setCell ⟨T,288,none⟩ v) T B g v {t with cU:=s}/\Fr (one T) U (U.setCell ⟨T,288,none⟩ v):=by
 refine⟨⟨lY T _ _ [_] _ _ h.eN,eZ (vs:=[_]) h.main (Or.inl ag),cg h.num T 288 [_] (Or.inr (Or.inl (by rw[nK];decide))),fun m hm=>cg (h.tab m hm) T 288 [_] (Or.inr (Or.inl (by rw[qG];omega))),eZ (vs:=[_]) h.steps (Or.inl ag),?_⟩,mQ T [_] _ _ (ae _ _)⟩;exact World.cell?_setCell_same' U ⟨T,288,none⟩ _ (by rw[h.st];rfl)
theorem gD.afv(h:gD U T B g sv t)(hp:p<4)(hi:i<4)(v:Int)(hf:(lu t.num).set (p*4+i) (.int .i64 v)=lu f):gD (U.setCell ⟨T,1+(p*4+i),none⟩ (.int .i64 v)) T B g sv {t with num:=f}/\Fr (one T) U (U.setCell ⟨T,1+(p*4+i),none⟩ (.int .i64 v)):=by
 refine⟨⟨lY T _ _ [_] _ _ h.eN,eZ (vs:=[_]) h.main (Or.inl ab),?_,fun m hm=>cg (h.tab m hm) T (1+(p*4+i)) [_] (Or.inr (Or.inr (by show 1+(p*4+i)+1<=_;omega))),eZ (vs:=[_]) h.steps (Or.inr (by show 1+(p*4+i)+1<=_;omega)),eZ (vs:=[_]) h.st (Or.inr (by show 1+(p*4+i)+1<=_;omega))⟩,mQ T [_] _ _ (ae _ _)⟩;show World.rangeAt _ T 1 (lu f);rw[<-hf];exact Hs h.num (by rw[nK];omega)
end
structure jk (t:fB):Prop where
 low:0<=t.steps
 tab:∀n,(t.tab n).does≠0->1<=(t.tab n).iG/\(t.tab n).iG<=t.steps/\∀e∈t.cU,e.tab=n->e.fin<(t.tab n).iG
 ev:∀e∈t.cU,1<=e.iG/\e.iG<e.fin/\e.fin<=t.steps
 pw:t.cU.Pairwise (fun a b=>a.fin<b.fin/\(a.tab=b.tab->a.fin<b.iG))
theorem jk.new:jk sq:=⟨fM _,fun n h=>absurd rfl h,fun e h=>(by cases h),List.Pairwise.nil⟩
theorem jk.quiet(h:jk t)(hs:t'.cU=t.cU)(ht:t.steps<=t'.steps)(hn:∀n,(t'.tab n).does≠0->((t.tab n).does≠0/\(t'.tab n).iG=(t.tab n).iG)\/((t'.tab n).iG=t'.steps/\t.steps<t'.steps)):jk t':=by
 have hl:=h.low;refine⟨ab,fun n hd=>?_,fun e he=>?_,by rw[hs];exact h.pw⟩
 ·rw[hs];rcases hn n hd with ⟨g1,g2⟩|⟨g1,g2⟩
  ·obtain⟨a,b,c⟩:=h.tab n g1;rw[g2];exact⟨a,ab,c⟩
  ·rw[g1];exact⟨ab,fM _,fun e he _=>by have:=(h.ev e he).2.2;omega⟩
 ·rw[hs]at he;obtain⟨a,b,c⟩:=h.ev e he;exact⟨a,b,ab⟩
theorem jk.ends{t1:fB}(h:jk t)(hd:(t.tab n).does≠0)(h1:t1.cU=t.cU)(h2:t1.steps=t.steps+1)(h3:∀m,(t1.tab m).iG=(t.tab m).iG/\((t1.tab m).does≠0->(t.tab m).does≠0))(r:kt):jk (ja t1 n r):=by
 have hl:=h.low;obtain⟨b1,b2,b3⟩:=h.tab n hd;obtain⟨e0,he0,e1,e2,e3⟩:∃e0,(ja t1 n r).cU=t.cU++[e0]/\e0.tab=n/\e0.iG=(t.tab n).iG/\e0.fin=t.steps+1:=⟨_,by unfold ja;rw[h1],rfl,(h3 n).1,h2⟩;have jx:(ja t1 n r).steps=t.steps+1:=h2;refine⟨by rw[jx];omega,fun m hm=>?_,fun e he=>?_,?_⟩
 ·by_cases e:m=n
  ·subst e;rw[po]at hm;exact absurd rfl hm
  ·rw[mT _ _ _ e]at hm ⊢;obtain⟨a,b,c⟩:=h.tab m ((h3 m).2 hm);rw[(h3 m).1,jx,he0];refine⟨a,ab,fun x hx hxt=>?_⟩;rcases bL.1 hx with hx|hx
   ·exact c x hx hxt
   ·rw[cH]at hx;subst hx;exact absurd (hxt.symm.trans e1) e
 ·rw[jx];rw[he0]at he;rcases bL.1 he with hx|hx
  ·obtain⟨a,b,c⟩:=h.ev e hx;exact⟨a,b,ab⟩
  ·rw[cH]at hx;subst hx;exact⟨ab,ab,ab⟩
 ·rw[he0];refine List.pairwise_append.2 ⟨h.pw,List.pairwise_singleton _ _,fun a ha b hb=>?_⟩;rw[cH]at hb;subst hb;have:=(h.ev a ha).2.2;exact⟨ab,fun e=>by rw[e2];exact b3 a ha (e.trans e1)⟩
theorem jk.step(h:jk t)(hd:(t.tab n).does≠0):jk (stepT t n).1:=by
 unfold stepT;split
 ·refine h.quiet rfl (by show t.steps<=t.steps+1;omega) (fun m hm=>Or.inl ?_);by_cases e:m=n
  ·subst e;exact⟨hd,by show((t.put m _).tab m).iG=_;rw[gz]⟩
  ·have CA:((t.put n {t.tab n with seen:=t.w,num:=t.num,does:=2}).tab m).does≠0:=hm;rw[iC _ _ e]at CA;exact⟨CA,by show((t.put n _).tab m).iG=_;rw[iC _ _ e]⟩
 ·split
  ·refine h.quiet rfl (by show t.steps<=t.steps+1;omega) (fun m hm=>Or.inl ?_);by_cases e:m=n
   ·subst e;exact⟨hd,by show((t.put m _).tab m).iG=_;rw[gz]⟩
   ·have CA:((t.put n {t.tab n with ec:=(iK (t.tab n).seen (t.tab n).op).2,seen:=(iK (t.tab n).seen (t.tab n).op).1,does:=3}).tab m).does≠0:=hm;rw[iC _ _ e]at CA;exact⟨CA,by show((t.put n _).tab m).iG=_;rw[iC _ _ e]⟩
  ·unfold iB;split
   ·split
    ·exact h.ends (t1:={t with steps:=t.steps+1,w:=_,num:=_}) hd rfl rfl (fun m=>⟨rfl,fun g=>g⟩) _
    ·exact h.ends (t1:={t with steps:=t.steps+1}) hd rfl rfl (fun m=>⟨rfl,fun g=>g⟩) _
   ·split
    ·refine h.quiet rfl (by show t.steps<=t.steps+1;omega) (fun m hm=>Or.inl ?_);by_cases e:m=n
     ·subst e;exact⟨hd,by show((fB.put _ m _).tab m).iG=_;rw[gz]⟩
     ·rw[iC _ _ e]at hm ⊢;exact⟨hm,rfl⟩
    ·refine h.ends (t1:=({t with steps:=t.steps+1}:fB).put n {t.tab n with fails:=(t.tab n).fails+1}) hd rfl rfl (fun m=>?_) _;by_cases e:m=n
     ·subst e;rw[gz];exact⟨rfl,fun g=>g⟩
     ·rw[iC _ _ e];exact⟨rfl,fun g=>g⟩
theorem jk.move(h:jk t)(m:J_):jk (oz t m):=by
 unfold oz;split
 ·unfold za;split
  ·split
   ·refine h.quiet rfl (by show t.steps<=t.steps+1;omega) (fun k hk=>?_);by_cases e:k=m.tab.toNat
    ·subst e;exact Or.inr ⟨by show((t.put _ _).tab _).iG=t.steps+1;rw[gz],by show t.steps<t.steps+1;omega⟩
    ·have IX:((t.put m.tab.toNat {fo with does:=1,op:=m.op,iG:=t.steps+1}).tab k).does≠0:=hk;rw[iC _ _ e]at IX;exact Or.inl ⟨IX,by show((t.put _ _).tab k).iG=_;rw[iC _ _ e]⟩
   ·exact h
  ·exact h
 ·split
  ·unfold nU;split
   ·split
    ·exact h
    ·refine h.quiet rfl (by show t.steps<=t.steps+1;omega) (fun k hk=>Or.inl ?_);by_cases e:k=m.tab.toNat
     ·subst e;exact absurd (by show((t.put _ fo).tab _).does=0;rw[gz];rfl) hk
     ·have IX:((t.put m.tab.toNat fo).tab k).does≠0:=hk;rw[iC _ _ e]at IX;exact⟨IX,by show((t.put _ _).tab k).iG=_;rw[iC _ _ e]⟩
   ·exact h
  ·split
   ·unfold lC;split
    ·split
     ·exact h
     ·rename_i hd;exact h.step hd
    ·exact h
   ·exact h
theorem jk.run(l:List J_):jk (tT l):=by
 unfold tT;have:∀(l:List J_) (t:fB),jk t->jk (l.foldl oz t):=by
  intro l
  induction l with
  |nil=>intro t h;exact h
  |cons m l ih=>intro t h;exact ih _ (h.move m)
 exact this l _ jk.new
open Go.ChangeShapes Go.WideShapes Go.ChangeAt Go.RowKit Go.Deep
structure vt (w:World) (v:Value) (ms:List tF):Prop where
 rows:dZ 24 w v (ms.map tF.cells)
 fit:∀m∈ms,gM w m.o m.hs
theorem vt.dm{ms:List tF}(h:vt w v ms)(hf:Fr aS w w'):vt w' v ms:=⟨bh h.rows hf,fun m hm=>(h.fit m hm).dm hf⟩
variable {H : Type} {enc : TypeId × Value → H} {W : World}
structure AR (w:World) (m:tF):Prop where
 op:vJ w m.o m.hs
 kind:(Lit.int .i64 m.kind).wf=true
 tab:(Lit.int .i64 m.tab).wf=true
abbrev xk(w:World)(v:Value)(ms:List tF):Prop:=dZ 24 w v (ms.map tF.cells)/\ms.length<=140737488355328/\∀m∈ms,AR w m
theorem M1:prog.cellsOf 66=24:=af
theorem ald{α:Type}{l:List α}(h:l.length=24):∃(a0 a1:α) (r:List α),l=a0 :: a1 :: r/\r.length=22:=by
 match l,h with
 |a0 :: a1 :: r,h=>exact⟨a0,a1,r,rfl,by simpa using h⟩
theorem abv{fuel:Nat}{x:DataW H×List MemPlace}(h:DataW.trod enc prog W 0 (fun _=>true) true fuel 66 cs=some x) :
  ∃b:tF,cs=b.cells/\cs.length=24/\(∀u∈cs,u.oneCell'=true)/\(pI prog 66 x.1->AR W b):=by
 obtain⟨hl,n,hf⟩:=om underlying66 h;rw[M1]at hl;obtain⟨c0,c1,cr,rfl,hcr⟩:=ald hl;obtain⟨y0,h0,l0⟩:=hf 0 3 0 _ rfl qe;obtain⟨y1,h1,l1⟩:=hf 1 3 1 _ rfl qe;obtain⟨y2,h2,l2⟩:=hf 2 41 2 _ rfl M0;simp only[List.drop,List.take]at h0 h1 h2;rw[aD ab]at h2;obtain⟨b0,e0,w0⟩:=kQ underlying3 h0;obtain⟨b1,e1,w1⟩:=kQ underlying3 h1;obtain⟨b2,e2,_,o2,s2⟩:=abu h2;simp only[fK,iW]at e0 e1;subst e0 e1
 refine⟨⟨b0,b1,b2.1,b2.2⟩,by rw[e2];rfl,hl,fun u hu=>?_,fun hL=>⟨s2 (l2 hL),w0,w1⟩⟩;rcases bC.1 hu with rfl|hu
 ·rfl
 rcases bC.1 hu with rfl|hu
 ·rfl
 ·exact o2 u hu
instance:Inhabited tF:=⟨⟨0,0,(default:jO×List ig).1,[]⟩⟩
theorem Cs{d:DataW H}{p:List MemPlace}(hv:Value.okWide prog W .any base 22 v)(h:DataW.Trod enc prog W 0 (fun _=>true) true 22 v d p)(hL:pI prog 22 d) :
  ∃ms:List tF,xk W v ms:=by
 obtain⟨a,len,cap,rfl⟩:=okWide_slice underlying22 hv;obtain⟨fuel,hf⟩:=h;obtain⟨v',css,bs,e,hr,hb,hs⟩:=Fb (Q:=fun cs (b:tF)=>cs=b.cells) (S:=fun b=>AR W b) underlying22 M1 ag (by kernel_rfl:prog.bytesOf 66=288) abv hf;simp only[Value.cells,fK,iW]at e;subst e;rw[Fc hb]at hr;have h2:=hs hL;refine⟨bs,hr,?_,h2.2⟩;have hk:reachBytes=140737488351232:=rfl;have:=h2.1;omega
structure kO (w:World):Prop where
 dig:xG w
 pw:wU w
theorem kO.fr(h:kO w)(hf:Fr aS w w'):kO w':=⟨h.dig.fr hf,h.pw.fr hf⟩
def kf(base:Nat)(w:World)(B:Nat)(pv:Nat->cY)(r:dD×kt)(e:Ending)(w':World):Prop :=
 e=.returned r.2.val/\dp base w B pv r.1 w'
section
variable {base : Nat} {a w w' : World} {B : Nat} {pv : Nat → cY} {x : dD}
theorem dp.after(hf:Fr aS a w)(h:dp base w B pv x w'):dp base a B pv x w':=by
 obtain⟨zh,h1,h2,h3⟩:=h;refine⟨zh,h1,gl (S:=lI B pv) (hf.mono (fun _ _ h=>absurd h id)) h2 (fun _ _ h=>h),fun k hk=>?_⟩;rcases h3 k hk with h|h
 ·exact Or.inl h
 ·exact Or.inr (aE hf.size h)
theorem dp.then(h:dp base a B pv x w)(hf:Fr aS w w'):dp base a B pv x w':=by
 obtain⟨zh,h1,h2,h3⟩:=h;exact⟨zh,h1.dm hf,h2.step (T:=aS) hf (fun _ _ h=>absurd h id),h3⟩
theorem dp.row(h:dp base w B pv x w'){n:Nat}{old:bT}{t:TypeId}(oM:base<=w.heap.size)(hB:B<w.heap.size)(hn:w.heap.size<=n)(hr:w'.heap[n]?=some (.cells old t (0,0)))
  (ht:eX t)(hs:t≠9)(new:bT):dp base w B pv x (w'.setRow n new):=by
 obtain⟨zh,h1,h2,h3⟩:=h;have kR:Fr (one n) w' (w'.setRow n new):=(ae (one n) w').setRow (fun _=>rfl) _;have nd:sG base w' (one n):=by
  rintro k rfl _;exact⟨ab,fun c f e=>by rw[hr]at e;cases e;exact hs rfl⟩
 refine⟨zh,h1.fr kR nd (fun i hi e=>?_),h2.step kR (fun k hk e=>?_),h3⟩
 ·have e':i=n:=e;subst e';rcases hi with rfl|⟨j,hj,hi⟩
  ·omega
  ·exact(h1.part j hj).fq hr ht hi
 ·have e':k=n:=e;omega
theorem od(h:cE base w B pv x){t:TypeId}{p:dR}(hi:i<4)(hp:dn base w B (iY pv x.now) (i*3) (pv i) p w')(hn:w.heap[n]?=some (.cells c t (0,0)))(ht:eX t)(hB:n≠B):w'.heap[n]?=some (.cells c t (0,0)):=by
 obtain⟨v',h1,h2,h3,h4⟩:=hp;exact eM (h.part i hi) h2 hn ht hB
end
theorem qF(hr:o.right=true)(hi:o.part=(i:Int))(hw:o.what≠10):iK x o=(x.set i (sJ (x.part i) x.now o).1,(sJ (x.part i) x.now o).2):=by
 rw[qE hr hw,hi];rfl
theorem WL{p:dR}{n:Int}(h:o.what=8\/o.what=9):sJ p n o=pG p o:=by
 unfold sJ;rcases h with h|h<;>rw[h]<;>rfl
theorem cE.xc{pv:Nat->cY}(h:cE base w B pv x){t:TypeId}(hn:w.heap[n]?=some (.cells c t (0,0)))(ht:eX t)(hw:t≠86):¬lI B pv n:=fun hk=>by
 rcases hk with rfl|⟨i,hi,hk⟩
 ·rw[h.eN]at hn;cases hn;exact hw rfl
 ·exact(h.part i hi).fq hn ht hk
abbrev cJ := @dp.after
abbrev eC := @dp.row
def CN(k:Nat):Value:=if k=0 then .nilIface else .iface 105 (.int .i64 k)
section
variable {U : World} {T B : Nat} {g : Nat → rC} {sv : Value} {t : fB}
theorem Jt{n:Int}(h:EP n=true):∃i:Nat,n=(i:Int)/\i<6:=by
 unfold EP at h;simp only[cy,du]at h;exact⟨n.toNat,ab,ab⟩
theorem O0(U:World)(T:Nat)(hi:i<6) :
  aB 42 #[.pointer (some ⟨T,0,none⟩),.int .i64 i] U fun e w'=>e=.returned (.tuple #[.pointer (some ⟨T,17+i*45,none⟩),.nilIface])/\w'=U:=by
 have h1:(i:Int)<6:=ab;have h0:¬(i:Int)<0:=ab;have h2:¬(6:Int)<=(i:Int):=ab;have h3:(0:Int)<=(i:Int):=ab;go_enter func42,ntmps42;go_wp2;go_ret2;exact⟨rfl,rfl⟩
theorem Ju(U:World)(T:Nat){n:Int}(hn:EP n=false) :
  aB 42 #[.pointer (some ⟨T,0,none⟩),.int .i64 n] U fun e w'=>e=.returned (.tuple #[.pointer none,CN 2])/\w'=U:=by
 have hh:¬(0<=n/\n<6):=by
  intro hh;unfold EP at hn;simp[hh.1,hh.2]at hn
 clear hn;by_cases h0:n<0
 ·have h1:¬(0:Int)<=n:=ab;clear hh;go_enter func42,ntmps42;go_wp2;go_ret2;exact⟨rfl,rfl⟩
 ·have h1:(0:Int)<=n:=ab;have h4:(6:Int)<=n:=ab;have h5:¬n<6:=ab;clear hh;go_enter func42,ntmps42;go_wp2;go_ret2;exact⟨rfl,rfl⟩
end
def MT(n:Nat)(b:Int)(e:ua):Bool:=(cO e.op).2&&(decide (e.ec.what≠6)&&(decide (b<e.fin)&&decide (e.tab≠n)))
def xR(l:List ua)(n:Nat)(b:Int):Nat:=(l.filter (MT n b)).length
theorem MU(l:List ua)(e:ua)(n:Nat)(b:Int):xR (l++[e]) n b=xR l n b+(if MT n b e then 1 else 0):=by
 unfold xR;rw[cG,aK];cases h:MT n b e<;>simp[h]
structure nz (t:fB):Prop where
 one:∀n,(t.tab n).does=1->(t.tab n).fails<=xR t.cU n (t.tab n).iG
 two:∀n,(t.tab n).does=2\/(t.tab n).does=3->∃c,(t.tab n).fails<=c/\c<=xR t.cU n (t.tab n).iG/\(c=xR t.cU n (t.tab n).iG->(t.tab n).num=t.num)
 ev:∀k e,t.cU[k]?=some e->e.ec.what=6->3<xR (t.cU.take k) e.tab e.iG
theorem nz.new:nz sq:=⟨fun n h=>(by cases h),fun n h=>(by rcases h with h|h<;>cases h),fun k e h=>(by cases h)⟩
theorem nz.quiet{t t':fB}(h:nz t)(hs:t'.cU=t.cU)(hn:t'.num=t.num)(m:Nat)(hm:∀n,n≠m->t'.tab n=t.tab n)
  (h1:(t'.tab m).does=1->(t'.tab m).fails<=xR t.cU m (t'.tab m).iG)(h2:(t'.tab m).does=2\/(t'.tab m).does=3->∃c,(t'.tab m).fails<=c/\c<=xR t.cU m (t'.tab m).iG/\(c=xR t.cU m (t'.tab m).iG->(t'.tab m).num=t.num)):nz t':=by
 refine⟨fun n hd=>?_,fun n hd=>?_,by rw[hs];exact h.ev⟩
 ·rw[hs];by_cases e:n=m
  ·subst e;exact h1 hd
  ·rw[hm n e]at hd ⊢; exact h.one n hd
 ·rw[hs,hn];by_cases e:n=m
  ·subst e;exact h2 hd
  ·rw[hm n e]at hd ⊢; exact h.two n hd
theorem nz.ends{t t':fB}{e0:ua}{m:Nat}(h:nz t)(hs:t'.cU=t.cU++[e0])(hm:∀n,n≠m->t'.tab n=t.tab n)(h0:(t'.tab m).does=0)
  (hb:e0.ec.what=6->3<xR t.cU e0.tab e0.iG)(hn:t'.num=t.num\/∀n,n≠m->(t.tab n).does≠0->MT n (t.tab n).iG e0=true):nz t':=by
 refine⟨fun n hd=>?_,fun n hd=>?_,fun k e he h6=>?_⟩
 ·by_cases e:n=m
  ·subst e;rw[h0]at hd;cases hd
  ·rw[hm n e]at hd ⊢;rw[hs,MU];have:=h.one n hd;omega
 ·by_cases e:n=m
  ·subst e;rw[h0]at hd;rcases hd with hd|hd<;>cases hd
  ·rw[hm n e]at hd ⊢;obtain⟨c,c1,c2,c3⟩:=h.two n hd;rw[hs,MU];refine⟨c,c1,ab,fun hc=>?_⟩;rcases hn with hn|hn
   ·rw[hn];refine c3 ?_;split at hc<;>omega
   ·have hz:(t.tab n).does≠0:=ab;rw[hn n e hz,az rfl]at hc;omega
 ·rw[hs]at he ⊢;rcases take_len _ _ he with ⟨g1,g2⟩|⟨_,rfl,g2⟩
  ·rw[g2];exact h.ev k e g1 h6
  ·rw[g2];exact hb h6
theorem abt{g:Nat->Nat->Int}(h:f=g):vF o g=vF o f:=by rw[h]
theorem nz.step(h:nz t)(hi:oB t)(ho:jk t)(hd:(t.tab n).does=1\/(t.tab n).does=2\/(t.tab n).does=3):nz (stepT t n).1:=by
 unfold stepT;by_cases h1:(t.tab n).does=1
 ·rw[az h1];have e:({(t.put n {t.tab n with seen:=t.w,num:=t.num,does:=2})with steps:=t.steps+1}:fB).tab n={t.tab n with seen:=t.w,num:=t.num,does:=2}:=gz t n _;refine h.quiet rfl rfl n (fun m e=>iC t _ e) (fun g=>?_) (fun _=>?_)
  ·rw[e]at g;cases g
  ·rw[e];exact⟨_,h.one n h1,ay _,fun _=>rfl⟩
 rw[aq h1];by_cases h2:(t.tab n).does=2
 ·rw[az h2];have e:({(t.put n {t.tab n with ec:=(iK (t.tab n).seen (t.tab n).op).2,seen:=(iK (t.tab n).seen (t.tab n).op).1,does:=3})with steps:=t.steps+1}:fB).tab n={t.tab n with ec:=(iK (t.tab n).seen (t.tab n).op).2,seen:=(iK (t.tab n).seen (t.tab n).op).1,does:=3}:=gz t n _;refine h.quiet rfl rfl n (fun m e=>iC t _ e) (fun g=>?_) (fun _=>?_)
  ·rw[e]at g;cases g
  ·rw[e];exact h.two n (Or.inl h2)
 rw[aq h2];have h3:(t.tab n).does=3:=ab;obtain⟨c,c1,c2,c3⟩:=h.two n (Or.inr h3);obtain⟨s,g1,g2,g3⟩:=hi.work n h3;have h6:(t.tab n).ec.what≠6:=by rw[g3];exact MR _ _
 unfold iB;split
 ·cases hw:(cO (t.tab n).op).2
  ·refine nz.ends (e0:=⟨n,(t.tab n).op,(t.tab n).ec,(t.tab n).iG,t.steps+1⟩) (m:=n) h ?_ (fun m e=>?_) ?_ (fun g=>absurd g h6) (Or.inl ?_)
   ·rfl
   ·exact mT _ _ _ e
   ·show((ja _ n _).tab n).does=0;rw[po];rfl
   ·rfl
  ·refine nz.ends (e0:=⟨n,(t.tab n).op,(t.tab n).ec,(t.tab n).iG,t.steps+1⟩) (m:=n) h ?_ (fun m e=>?_) ?_ (fun g=>absurd g h6) (Or.inr fun m e hm=>?_)
   ·rfl
   ·exact mT _ _ _ e
   ·show((ja _ n _).tab n).does=0;rw[po];rfl
   ·have hb:=(ho.tab m hm).2.1;unfold MT;simp only[hw,jS,cy,du];exact⟨h6,ab,fun g=>e g.symm⟩
 ·rename_i hv;have sS:c<xR t.cU n (t.tab n).iG:=by
   rcases eS c (xR t.cU n (t.tab n).iG)with g|g
   ·exact g
   ·exact absurd (abt (c3 ab)) hv
  split
  ·have e:(fB.put {t with steps:=t.steps+1} n {t.tab n with fails:=(t.tab n).fails+1,does:=1}).tab n={t.tab n with fails:=(t.tab n).fails+1,does:=1}:=gz _ n _;refine h.quiet rfl rfl n (fun m e=>iC _ _ e) (fun _=>?_) (fun g=>?_)
   ·show((fB.put {t with steps:=t.steps+1} n {t.tab n with fails:=(t.tab n).fails+1,does:=1}).tab n).fails<=xR t.cU n ((fB.put {t with steps:=t.steps+1} n {t.tab n with fails:=(t.tab n).fails+1,does:=1}).tab n).iG;rw[e];show(t.tab n).fails+1<=xR t.cU n (t.tab n).iG;omega
   ·have g':((fB.put {t with steps:=t.steps+1} n {t.tab n with fails:=(t.tab n).fails+1,does:=1}).tab n).does=2\/((fB.put {t with steps:=t.steps+1} n {t.tab n with fails:=(t.tab n).fails+1,does:=1}).tab n).does=3:=g;rw[e]at g';rcases g' with g'|g'<;>cases g'
  ·rename_i hf;have N1:¬(t.tab n).fails+1<=3:=hf;have e:(fB.put {t with steps:=t.steps+1} n {t.tab n with fails:=(t.tab n).fails+1}).tab n={t.tab n with fails:=(t.tab n).fails+1}:=gz _ n _;refine nz.ends (e0:=⟨n,(t.tab n).op,rep 6,(t.tab n).iG,t.steps+1⟩) (m:=n) h ?_ (fun m e=>?_) ?_ (fun _=>?_) (Or.inl rfl)
   ·show t.cU++[(⟨n,((fB.put {t with steps:=t.steps+1} n {t.tab n with fails:=(t.tab n).fails+1}).tab n).op,rep 6,((fB.put {t with steps:=t.steps+1} n {t.tab n with fails:=(t.tab n).fails+1}).tab n).iG,t.steps+1⟩:ua)]=_;rw[e]
   ·exact(mT _ _ _ e).trans (iC _ _ e)
   ·show((ja _ n _).tab n).does=0;rw[po];rfl
   ·show 3<xR t.cU n (t.tab n).iG;omega
structure vI (t:fB):Prop where
 O_:p_ t
 ord:jk t
 YR:nz t
theorem vI.new:vI sq:=⟨⟨oB.new,xj.new⟩,jk.new,nz.new⟩
theorem vI.move(h:vI t)(m:J_):vI (oz t m):=by
 refine⟨h.O_.move m,h.ord.move m,?_⟩;unfold oz;split
 ·unfold za;split
  ·split
   ·have e:({(t.put m.tab.toNat {fo with does:=1,op:=m.op,iG:=t.steps+1})with steps:=t.steps+1}:fB).tab m.tab.toNat={fo with does:=1,op:=m.op,iG:=t.steps+1}:=gz t _ _;refine h.YR.quiet rfl rfl m.tab.toNat (fun k e=>iC t _ e) (fun _=>?_) (fun g=>?_)
    ·rw[e];exact aL _
    ·rw[e]at g;rcases g with g|g<;>cases g
   ·exact h.YR
  ·exact h.YR
 ·split
  ·unfold nU;split
   ·split
    ·exact h.YR
    ·have e:({(t.put m.tab.toNat fo)with steps:=t.steps+1}:fB).tab m.tab.toNat=fo:=gz t _ _;refine h.YR.quiet rfl rfl m.tab.toNat (fun k e=>iC t _ e) (fun g=>?_) (fun g=>?_)
     ·rw[e]at g;cases g
     ·rw[e]at g;rcases g with g|g<;>cases g
   ·exact h.YR
  ·split
   ·unfold lC;split
    ·split
     ·exact h.YR
     ·rename_i hd;have:=h.O_.2 m.tab.toNat;exact h.YR.step h.O_.1 h.ord ab
    ·exact h.YR
   ·exact h.YR
theorem vI.run(l:List J_):vI (tT l):=by
 unfold tT;have:∀(l:List J_) (t:fB),vI t->vI (l.foldl oz t):=by
  intro l
  induction l with
  |nil=>intro t h;exact h
  |cons m l ih=>intro t h;exact ih _ (h.move m)
 exact this l _ vI.new
def xQ(base:Nat)(U:World)(ws:Nat->Option (Nat×dD)):Prop :=
 ∃pv:Nat->Nat->cY,(∀i B x,ws i=some (B,x)->cE base U B (pv i) x)/\∀i j B x C y,i≠j->ws i=some (B,x)->ws j=some (C,y)->∀k,lI B (pv i) k->¬lI C (pv j) k
section
variable {base : Nat} {a U U' : World} {ws : Nat → Option (Nat × dD)}
theorem xQ.dm(h:xQ base U ws)(hf:Fr aS U U'):xQ base U' ws:=by
 obtain⟨pv,h1,h2⟩:=h;exact⟨pv,fun i B x hi=>(h1 i B x hi).dm hf,h2⟩
theorem xQ.sub{ws':Nat->Option (Nat×dD)}(h:xQ base U ws)(hs:∀i p,ws' i=some p->ws i=some p):xQ base U ws':=by
 obtain⟨pv,h1,h2⟩:=h;exact⟨pv,fun i B x hi=>h1 i B x (hs _ _ hi),fun i j B x C y Rl hi hj=>h2 i j B x C y Rl (hs _ _ hi) (hs _ _ hj)⟩
theorem xQ.one(h:xQ base U ws)(oM:base<=n){t:TypeId}(hb:U.heap[n]?=some (.cells c t (0,0)))(ht:eX t)(hw:t≠86)(hs:t≠9)(hf:Fr (one n) U U'):xQ base U' ws:=by
 obtain⟨pv,h1,h2⟩:=h;refine⟨pv,fun i B x hi=>(h1 i B x hi).fr hf ?_ (fun k hk e=>?_),h2⟩
 ·rintro k rfl _;exact⟨oM,fun c f e=>by rw[hb]at e;cases e;exact hs rfl⟩
 ·cases(show k=n from e);exact(h1 i B x hi).xc hb ht hw hk
theorem xQ.at(h:xQ base U ws)(hi:ws i=some (B,x)):∃pv,cE base U B pv x:=by
 obtain⟨pv,h1,_⟩:=h;exact⟨pv i,h1 i B x hi⟩
def Kept(U U':World):Prop:=∃S:dF,Fr S U U'/\∀(n:Nat) (c:bT) (t:TypeId),U.heap[n]?=some (.cells c t (0,0))->eX t->t≠86->¬S n
theorem Kept.W7(h:Fr aS U U'):Kept U U':=⟨aS,h,fun _ _ _ _ _ _ h=>h⟩
theorem Kept.refl(U:World):Kept U U:=Kept.W7 (ae _ _)
theorem Kept.block(h:Kept U U'){t:TypeId}(hn:U.heap[n]?=some (.cells c t (0,0)))(ht:eX t)(hw:t≠86):U'.heap[n]?=some (.cells c t (0,0)):=by
 obtain⟨S,hf,hs⟩:=h;exact hf.keep hn (hs n c t hn ht hw)
theorem Kept.trans{V:World}(h:Kept U U')(g:Kept U' V):Kept U V:=by
 obtain⟨S,hf,hs⟩:=h;obtain⟨Z,hg,hz⟩:=g;refine⟨fun n=>S n\/Z n,(hf.mono fun _ _ h=>Or.inl h).trans (hg.mono fun _ _ h=>Or.inr h),?_⟩;rintro n c t hn ht hw(e|e)
 ·exact hs n c t hn ht hw e
 ·exact hz n c t (hf.keep hn (hs n c t hn ht hw)) ht hw e
theorem Kept.rows(h:Kept U U'){e:TypeId}{xs:dh}(hr:OwnRows b e k U v xs)(ht:eX e)(hw:e≠86):OwnRows b e k U' v xs:=by
 obtain⟨S,hf,hs⟩:=h;refine hr.fr hf fun g hg=>?_;obtain⟨c,hc⟩:=hr.Ca hg;exact hs g c e hc ht hw
theorem Kept.eN(h:Kept U U'){g:Nat->rC}{sv:Value}(hb:gD U T B g sv t):gD U' T B g sv t:=by
 obtain⟨S,hf,hs⟩:=h;obtain⟨c,hc,_⟩:=hb.eN;exact hb.fr hf (hs T c _ hc (by unfold eX;decide) ag)
theorem xQ.act{f:FuncId}{args:bT}{R:Ending->Prop}(h:xQ base U ws)(hf:Fr aS a U)(sK:a.heap.size<=base){i B:Nat}{x x':dD}(hi:ws i=some (B,x))
  (hc:∀pv,cE base U B pv x->aB f args U fun e w'=>R e/\dp base U B pv x' w') :
  aB f args U fun e w'=>R e/\xQ base w' (fun j=>if j=i then some (B,x')else ws j)/\Fr aS a w'/\Kept U w':=by
 obtain⟨pv,h1,h2⟩:=h;have g:=h1 i B x hi;refine(hc (pv i) g).mono fun e w' hh=>⟨hh.1,?_,hh.2.frame g hf sK,?_⟩
 ·obtain⟨zh,g1,g2,g3⟩:=hh.2;refine⟨fun j=>if j=i then zh else pv j,fun j C y hj=>?_,fun j k C y D z hjk hj hk q hq Ht=>?_⟩
  ·by_cases e:j=i
   ·simp only[az e,eb,jb]at hj ⊢;obtain⟨rfl,rfl⟩:=hj;exact g1
   ·simp only[aq e]at hj ⊢;exact(h1 j C y hj).fr g2 g.off (fun k hk=>h2 j i C y B x e hj hi k hk)
  ·by_cases e:j=i
   ·have e':¬k=i:=fun e'=>hjk (e.trans e'.symm);simp only[az e,aq e',eb,jb]at hj hk hq Ht;obtain⟨rfl,rfl⟩:=hj;rcases g3 q hq with r|r
    ·exact h2 k i D z B x e' hk hi q Ht r
    ·have:=(h1 k D z hk).jq Ht;omega
   ·by_cases e':k=i
    ·simp only[az e',aq e,eb,jb]at hj hk hq Ht;obtain⟨rfl,rfl⟩:=hk;rcases g3 q Ht with r|r
     ·exact h2 j i C y B x e hj hi q hq r
     ·have:=(h1 j C y hj).jq hq;omega
    ·simp only[aq e',aq e]at hj hk hq Ht;exact h2 j k C y D z hjk hj hk q hq Ht
 ·obtain⟨zh,g1,g2,g3⟩:=hh.2;exact⟨_,g2,fun n c t hn ht hw=>g.xc hn ht hw⟩
theorem xQ.add(h:xQ base U ws)(hf:Fr aS U U'){C:Nat}{qv:Nat->cY}{y:dD}(hc:cE base U' C qv y)(hn:∀j,lI C qv j->U.heap.size<=j):xQ base U' (fun j=>if j=i then some (C,y)else ws j):=by
 obtain⟨pv,h1,h2⟩:=h;refine⟨fun j=>if j=i then qv else pv j,fun j D z hj=>?_,fun j k D z E z' hjk hj hk q hq Ht=>?_⟩
 ·by_cases e:j=i
  ·simp only[az e,eb,jb]at hj ⊢;obtain⟨rfl,rfl⟩:=hj;exact hc
  ·simp only[aq e]at hj ⊢;exact(h1 j D z hj).dm hf
 ·by_cases e:j=i
  ·have e':¬k=i:=fun e'=>hjk (e.trans e'.symm);simp only[az e,aq e',eb,jb]at hj hk hq Ht;obtain⟨rfl,rfl⟩:=hj;have a1:=hn q hq;have a2:=(h1 k E z' hk).jq Ht;omega
  ·by_cases e':k=i
   ·simp only[az e',aq e,eb,jb]at hj hk hq Ht;obtain⟨rfl,rfl⟩:=hk;have a1:=hn q Ht;have a2:=(h1 j D z hj).jq hq;omega
   ·simp only[aq e',aq e]at hj hk hq Ht;exact h2 j k D z E z' hjk hj hk q hq Ht
end
abbrev gj := @Kept.W7
theorem afw(base:Nat)(w:World)(B:Nat)(pv:Nat->cY)(x:dD)(o:jO)(hs:List ig)(h:cE base w B pv x)(hf:gM w o hs)(hi:lr x)(a:World)(tR:kO a)(sK:a.heap.size<=base)(tS:Fr aS a w)(hr:(o.dW hs).right=false) :
  aB 14 #[.pointer (some ⟨B,0,none⟩),.agg o.cells.toArray] w (kf base w B pv (iK x (o.dW hs))):=by
 have vd:B<w.heap.size:=h.lt;have oM:=h.low;obtain⟨ah,ch,g_⟩:=hf.h_;obtain⟨w2,eG⟩:∃w2,w2=(w.alloc (.cells o.cells.toArray 41)).alloc (.cells bU 30):=⟨_,rfl⟩;have dE:Fr aS w w2:=by rw[eG];exact((ae aS w).alloc _).alloc _
 have k1:w2.heap[w.heap.size]?=some (.cells o.cells.toArray 41 (0,0)):=by rw[eG];exact((ae aS _).alloc _).keep (aC _ _) id
 have k2:w2.heap[w.heap.size+1]?=some (.cells bU 30 (0,0)):=by
  have h:=aC (w.alloc (.cells o.cells.toArray 41)) (.cells bU 30);rw[bP]at h;rw[eG];exact h
 have tU:=O (lJ o hs w2 (hf.dm dE));have HH:=O (h.dm dE);have HF:=O (hf.dm dE);have l_:=O g_;have HI:=O hi;have fU:=O dE;have mV:=O k1;have ra:=O k2;have py:=O (show base<=w.heap.size from ab);have xL:=O oM;have pn:=O vd;have SJ:=O tR;have SI:=O (tS.trans dE);have YJ:=O sK;rw[eG]at k1;rw[eF g_]at eG tU k1 ⊢;unfold bU at eG k1;have nP:=O eG;have vX:=O k1;clear eG g_ dE k1 k2 h hf hi tR sK tS
 have HR:=O (show iK x (o.dW hs)=(x,rep 7)from tA hr);rw[hr]at tU;clear hr;go_enter func14,ntmps14;go_wp2_with (first|((with_reducible refine dr 8 ?_);refine aI rfl 41 (.tmp 3) rfl w.heap.size rfl _ _ (0,0) _ vX.o underlying41 rfl af ?_)|fail)
 rw[<-nP.o];refine tU.o.mono ?_;rintro e u⟨rfl,hu⟩;have HU:=O hu;have HP:=O (show dp base w B pv x u from cJ fU.o (fE HH.o hu));have px:=O (hu.keep ra.o id);clear hu vX;go_wp2_with (first|((with_reducible refine cZ 30 ?_);refine aF rfl 30 (.tmp 4) (.tmp 11) rfl (w.heap.size+1) #[.int .i64 7,.string ⟨#[]⟩,.int .i64 0] rfl rfl _ bU px.o (bf _ rfl) rfl cC ?_)|fail)
 refine aW (bw bD _ _ (w.heap.size+1) 30 #[.int .i64 7,.string ⟨#[]⟩,.int .i64 0] (0,0) _ rfl (a_ _ (w.heap.size+1) _ _ _ _ px.o) underlying30 rfl (bf _ rfl)) rfl ?_;unfold kf;rw[HR.o];exact⟨rfl,eC HP.o py.o pn.o (bX _) px.o dM ag _⟩
theorem SS(base:Nat)(w:World)(B:Nat)(pv:Nat->cY)(x:dD)(o:jO)(hs:List ig)(h:cE base w B pv x)(hf:gM w o hs)(hi:lr x)(a:World)(tR:kO a)(sK:a.heap.size<=base)(tS:Fr aS a w)(hr:(o.dW hs).right=true)(hw:o.what=1) :
  aB 14 #[.pointer (some ⟨B,0,none⟩),.agg o.cells.toArray] w (kf base w B pv (iK x (o.dW hs))):=by
 have vd:B<w.heap.size:=h.lt;have oM:=h.low;obtain⟨ah,ch,g_⟩:=hf.h_;obtain⟨w2,eG⟩:∃w2,w2=(w.alloc (.cells o.cells.toArray 41)).alloc (.cells bU 30):=⟨_,rfl⟩;have dE:Fr aS w w2:=by rw[eG];exact((ae aS w).alloc _).alloc _
 have k1:w2.heap[w.heap.size]?=some (.cells o.cells.toArray 41 (0,0)):=by rw[eG];exact((ae aS _).alloc _).keep (aC _ _) id
 have k2:w2.heap[w.heap.size+1]?=some (.cells bU 30 (0,0)):=by
  have h:=aC (w.alloc (.cells o.cells.toArray 41)) (.cells bU 30);rw[bP]at h;rw[eG];exact h
 have tU:=O (lJ o hs w2 (hf.dm dE));have HH:=O (h.dm dE);have HF:=O (hf.dm dE);have l_:=O g_;have HI:=O hi;have fU:=O dE;have mV:=O k1;have ra:=O k2;have py:=O (show base<=w.heap.size from ab);have xL:=O oM;have pn:=O vd;have SJ:=O tR;have SI:=O (tS.trans dE);have YJ:=O sK;rw[eG]at k1;rw[eF g_]at eG tU k1 ⊢;unfold bU at eG k1;have nP:=O eG;have vX:=O k1;clear eG g_ dE k1 k2 h hf hi tR sK tS
 obtain⟨i,wa,A1⟩:∃i:Nat,o.aN.part=(i:Int)/\i<4:=by
  obtain⟨h0,h1⟩:=iX hr;have Ub:0<=o.aN.part:=h0;have I_:o.aN.part<4:=h1;exact⟨o.aN.part.toNat,ab,ab⟩
 have Nw:(i:Int)<4:=ab;have qN:¬(i:Int)<0:=ab;have N2:¬(4:Int)<=(i:Int):=ab;have Lu:(0:Int)<=(i:Int):=ab;have tE:=O A1;have A_:=O wa;obtain⟨r,CM⟩:∃r,r=iA (x.part i) (o.dW hs):=⟨_,rfl⟩;have HR:=O (show iK x (o.dW hs)=(x.set i r.1,r.2)by rw[qF hr wa (by show o.what≠10;omega),CM,afo (show(o.dW hs).what=1 from hw)]);rw[hr]at tU
 have HM:=O (show∀U,Fr aS w2 U->aB 30 #[.pointer (some ⟨B,i*3,none⟩),.agg o.cells.toArray] U (eK base U B (iY pv x.now) (i*3) (pv i) r)from fun U hU=>by
  have h:=OS base U B (i*3) (iY pv x.now) (pv i) (x.part i) o hs ((HH.o.dm hU).part i tE.o) ((HH.o.dm hU).partAt tE.o) xL.o (HF.o.dm hU) (HI.o.ok.part i) (HI.o.sm i) a SJ.o.dig YJ.o (SI.o.trans hU);rw[<-CM]at h;exact h)
 rw[eF l_.o]at HM;have HW:=O hw;clear hr hw CM A1 wa;go_enter func14,ntmps14;go_wp2_with (first|((with_reducible refine dr 8 ?_);refine aI rfl 41 (.tmp 3) rfl w.heap.size rfl _ _ (0,0) _ vX.o underlying41 rfl af ?_)|fail)
 rw[<-nP.o];refine tU.o.mono ?_;rintro e u⟨rfl,hu⟩;obtain⟨a0,a1,a2,a3,a4,a5,a6,a7,a8,a9,jP,jQ,a12,jN,jR,jy,j_,ka,ke,ko,a20,a21⟩:=eA (hu.keep mV.o id) l_.o;rw[A_.o]at a1;clear a0 a2 a3 a4 a5 a6 a7 a8 a9 jP jQ a12 jN jR jy j_ ka ke ko a20 a21;have qH:=O (show∀n,Fr aS w2 (u.drewN n)from fun n=>dG n hu);clear hu vX;go_wp2_with fail
 go_quiet (fail);clear a1;have mS:=qH.o nq;generalize u.drewN nq=u1 at mS ⊢;have tV:=O mS;clear mS qH;have Fz:=O (tV.o.keep mV.o id);rw[eF l_.o]at Fz;obtain⟨a0,a1,a2,a3,a4,a5,a6,a7,a8,a9,jP,jQ,a12,jN,jR,jy,j_,ka,ke,ko,a20,a21⟩:=eA (tV.o.keep mV.o id) l_.o;rw[A_.o]at a1;have xP:=HW.o;rw[xP]at a0;clear xP;clear a1 a2 a3 a4 a5 a6 a7 a8 a9 jP jQ a12 jN jR jy j_ ka ke ko a20 a21
 go_wp2_with (first|((with_reducible refine dr 24 ?_);refine aI rfl 41 (.tmp 3) rfl w.heap.size rfl _ _ (0,0) _ Fz.o underlying41 rfl af ?_)|fail)
 have tW:=tV.o;refine(HM.o _ tW).mono ?_;rintro e u5⟨rfl,hp⟩;unfold kt.val;have Mr:=tW.keep ra.o id;have px:=O (od (HH.o.dm tW) tE.o hp Mr dM ab);have HP:=O (show dp base w B pv (x.set i r.1) u5 from cJ fU.o (cJ tW (kF (HH.o.dm tW) tE.o hp)));clear hp Mr tW HM
 go_wp2_with (first|((with_reducible refine cZ 30 ?_);refine aF rfl 30 (.tmp 4) (.tmp 25) rfl (w.heap.size+1) #[.int .i64 r.2.what,.string r.2.head,.int .i64 r.2.cert] rfl rfl _ bU px.o (bf _ rfl) rfl cC ?_)|fail)
 refine aW (bw bD _ _ (w.heap.size+1) 30 #[.int .i64 r.2.what,.string r.2.head,.int .i64 r.2.cert] (0,0) _ rfl (a_ _ (w.heap.size+1) _ _ _ _ px.o) underlying30 rfl (bf _ rfl)) rfl ?_;unfold kf;rw[HR.o];exact⟨rfl,eC HP.o py.o pn.o (bX _) px.o dM ag _⟩
theorem Pe(base:Nat)(w:World)(B:Nat)(pv:Nat->cY)(x:dD)(o:jO)(hs:List ig)(h:cE base w B pv x)(hf:gM w o hs)(hi:lr x)(a:World)(tR:kO a)(sK:a.heap.size<=base)(tS:Fr aS a w)(hr:(o.dW hs).right=true)(hw:o.what=2) :
  aB 14 #[.pointer (some ⟨B,0,none⟩),.agg o.cells.toArray] w (kf base w B pv (iK x (o.dW hs))):=by
 have vd:B<w.heap.size:=h.lt;have oM:=h.low;obtain⟨ah,ch,g_⟩:=hf.h_;obtain⟨w2,eG⟩:∃w2,w2=(w.alloc (.cells o.cells.toArray 41)).alloc (.cells bU 30):=⟨_,rfl⟩;have dE:Fr aS w w2:=by rw[eG];exact((ae aS w).alloc _).alloc _
 have k1:w2.heap[w.heap.size]?=some (.cells o.cells.toArray 41 (0,0)):=by rw[eG];exact((ae aS _).alloc _).keep (aC _ _) id
 have k2:w2.heap[w.heap.size+1]?=some (.cells bU 30 (0,0)):=by
  have h:=aC (w.alloc (.cells o.cells.toArray 41)) (.cells bU 30);rw[bP]at h;rw[eG];exact h
 have tU:=O (lJ o hs w2 (hf.dm dE));have HH:=O (h.dm dE);have HF:=O (hf.dm dE);have l_:=O g_;have HI:=O hi;have fU:=O dE;have mV:=O k1;have ra:=O k2;have py:=O (show base<=w.heap.size from ab);have xL:=O oM;have pn:=O vd;have SJ:=O tR;have SI:=O (tS.trans dE);have YJ:=O sK;rw[eG]at k1;rw[eF g_]at eG tU k1 ⊢;unfold bU at eG k1;have nP:=O eG;have vX:=O k1;clear eG g_ dE k1 k2 h hf hi tR sK tS
 obtain⟨i,wa,A1⟩:∃i:Nat,o.aN.part=(i:Int)/\i<4:=by
  obtain⟨h0,h1⟩:=iX hr;have Ub:0<=o.aN.part:=h0;have I_:o.aN.part<4:=h1;exact⟨o.aN.part.toNat,ab,ab⟩
 have Nw:(i:Int)<4:=ab;have qN:¬(i:Int)<0:=ab;have N2:¬(4:Int)<=(i:Int):=ab;have Lu:(0:Int)<=(i:Int):=ab;have tE:=O A1;have A_:=O wa;obtain⟨r,CM⟩:∃r,r=fP (x.part i) (o.dW hs):=⟨_,rfl⟩;have HR:=O (show iK x (o.dW hs)=(x.set i r.1,r.2)by rw[qF hr wa (by show o.what≠10;omega),CM,afp (show(o.dW hs).what=2 from hw)]);rw[hr]at tU
 have HM:=O (show∀U,Fr aS w2 U->aB 31 #[.pointer (some ⟨B,i*3,none⟩),.agg o.cells.toArray] U (eK base U B (iY pv x.now) (i*3) (pv i) r)from fun U hU=>by
  have h:=MB base U B (i*3) (iY pv x.now) (pv i) (x.part i) o hs ((HH.o.dm hU).part i tE.o) ((HH.o.dm hU).partAt tE.o) xL.o (HF.o.dm hU) (HI.o.ok.part i);rw[<-CM]at h;exact h)
 rw[eF l_.o]at HM;have HW:=O hw;clear hr hw CM A1 wa;go_enter func14,ntmps14;go_wp2_with (first|((with_reducible refine dr 8 ?_);refine aI rfl 41 (.tmp 3) rfl w.heap.size rfl _ _ (0,0) _ vX.o underlying41 rfl af ?_)|fail)
 rw[<-nP.o];refine tU.o.mono ?_;rintro e u⟨rfl,hu⟩;obtain⟨a0,a1,a2,a3,a4,a5,a6,a7,a8,a9,jP,jQ,a12,jN,jR,jy,j_,ka,ke,ko,a20,a21⟩:=eA (hu.keep mV.o id) l_.o;rw[A_.o]at a1;clear a0 a2 a3 a4 a5 a6 a7 a8 a9 jP jQ a12 jN jR jy j_ ka ke ko a20 a21;have qH:=O (show∀n,Fr aS w2 (u.drewN n)from fun n=>dG n hu);clear hu vX;go_wp2_with fail
 go_quiet (fail);clear a1;have mS:=qH.o nq;generalize u.drewN nq=u1 at mS ⊢;have tV:=O mS;clear mS qH;have Fz:=O (tV.o.keep mV.o id);rw[eF l_.o]at Fz;obtain⟨a0,a1,a2,a3,a4,a5,a6,a7,a8,a9,jP,jQ,a12,jN,jR,jy,j_,ka,ke,ko,a20,a21⟩:=eA (tV.o.keep mV.o id) l_.o;rw[A_.o]at a1;have xP:=HW.o;rw[xP]at a0;clear xP;clear a1 a2 a3 a4 a5 a6 a7 a8 a9 jP jQ a12 jN jR jy j_ ka ke ko a20 a21
 go_wp2_with (first|((with_reducible refine dr 29 ?_);refine aI rfl 41 (.tmp 3) rfl w.heap.size rfl _ _ (0,0) _ Fz.o underlying41 rfl af ?_)|fail)
 have tW:=tV.o;refine(HM.o _ tW).mono ?_;rintro e u5⟨rfl,hp⟩;unfold kt.val;have Mr:=tW.keep ra.o id;have px:=O (od (HH.o.dm tW) tE.o hp Mr dM ab);have HP:=O (show dp base w B pv (x.set i r.1) u5 from cJ fU.o (cJ tW (kF (HH.o.dm tW) tE.o hp)));clear hp Mr tW HM
 go_wp2_with (first|((with_reducible refine cZ 30 ?_);refine aF rfl 30 (.tmp 4) (.tmp 30) rfl (w.heap.size+1) #[.int .i64 r.2.what,.string r.2.head,.int .i64 r.2.cert] rfl rfl _ bU px.o (bf _ rfl) rfl cC ?_)|fail)
 refine aW (bw bD _ _ (w.heap.size+1) 30 #[.int .i64 r.2.what,.string r.2.head,.int .i64 r.2.cert] (0,0) _ rfl (a_ _ (w.heap.size+1) _ _ _ _ px.o) underlying30 rfl (bf _ rfl)) rfl ?_;unfold kf;rw[HR.o];exact⟨rfl,eC HP.o py.o pn.o (bX _) px.o dM ag _⟩
theorem MG(base:Nat)(w:World)(B:Nat)(pv:Nat->cY)(x:dD)(o:jO)(hs:List ig)(h:cE base w B pv x)(hf:gM w o hs)(hi:lr x)(a:World)(tR:kO a)(sK:a.heap.size<=base)(tS:Fr aS a w)(hr:(o.dW hs).right=true)(hw:o.what=3) :
  aB 14 #[.pointer (some ⟨B,0,none⟩),.agg o.cells.toArray] w (kf base w B pv (iK x (o.dW hs))):=by
 have vd:B<w.heap.size:=h.lt;have oM:=h.low;obtain⟨ah,ch,g_⟩:=hf.h_;obtain⟨w2,eG⟩:∃w2,w2=(w.alloc (.cells o.cells.toArray 41)).alloc (.cells bU 30):=⟨_,rfl⟩;have dE:Fr aS w w2:=by rw[eG];exact((ae aS w).alloc _).alloc _
 have k1:w2.heap[w.heap.size]?=some (.cells o.cells.toArray 41 (0,0)):=by rw[eG];exact((ae aS _).alloc _).keep (aC _ _) id
 have k2:w2.heap[w.heap.size+1]?=some (.cells bU 30 (0,0)):=by
  have h:=aC (w.alloc (.cells o.cells.toArray 41)) (.cells bU 30);rw[bP]at h;rw[eG];exact h
 have tU:=O (lJ o hs w2 (hf.dm dE));have HH:=O (h.dm dE);have HF:=O (hf.dm dE);have l_:=O g_;have HI:=O hi;have fU:=O dE;have mV:=O k1;have ra:=O k2;have py:=O (show base<=w.heap.size from ab);have xL:=O oM;have pn:=O vd;have SJ:=O tR;have SI:=O (tS.trans dE);have YJ:=O sK;rw[eG]at k1;rw[eF g_]at eG tU k1 ⊢;unfold bU at eG k1;have nP:=O eG;have vX:=O k1;clear eG g_ dE k1 k2 h hf hi tR sK tS
 obtain⟨i,wa,A1⟩:∃i:Nat,o.aN.part=(i:Int)/\i<4:=by
  obtain⟨h0,h1⟩:=iX hr;have Ub:0<=o.aN.part:=h0;have I_:o.aN.part<4:=h1;exact⟨o.aN.part.toNat,ab,ab⟩
 have Nw:(i:Int)<4:=ab;have qN:¬(i:Int)<0:=ab;have N2:¬(4:Int)<=(i:Int):=ab;have Lu:(0:Int)<=(i:Int):=ab;have tE:=O A1;have A_:=O wa;obtain⟨r,CM⟩:∃r,r=gi (x.part i) (o.dW hs):=⟨_,rfl⟩;have HR:=O (show iK x (o.dW hs)=(x.set i r.1,r.2)by rw[qF hr wa (by show o.what≠10;omega),CM,afq (show(o.dW hs).what=3 from hw)]);rw[hr]at tU
 have HM:=O (show∀U,Fr aS w2 U->aB 32 #[.pointer (some ⟨B,i*3,none⟩),.agg o.cells.toArray] U (eK base U B (iY pv x.now) (i*3) (pv i) r)from fun U hU=>by
  have h:=Jy base U B (i*3) (iY pv x.now) (pv i) (x.part i) o hs ((HH.o.dm hU).part i tE.o) ((HH.o.dm hU).partAt tE.o) xL.o (HF.o.dm hU) (HI.o.ok.part i) (HI.o.path i);rw[<-CM]at h;exact h)
 rw[eF l_.o]at HM;have HW:=O hw;clear hr hw CM A1 wa;go_enter func14,ntmps14;go_wp2_with (first|((with_reducible refine dr 8 ?_);refine aI rfl 41 (.tmp 3) rfl w.heap.size rfl _ _ (0,0) _ vX.o underlying41 rfl af ?_)|fail)
 rw[<-nP.o];refine tU.o.mono ?_;rintro e u⟨rfl,hu⟩;obtain⟨a0,a1,a2,a3,a4,a5,a6,a7,a8,a9,jP,jQ,a12,jN,jR,jy,j_,ka,ke,ko,a20,a21⟩:=eA (hu.keep mV.o id) l_.o;rw[A_.o]at a1;clear a0 a2 a3 a4 a5 a6 a7 a8 a9 jP jQ a12 jN jR jy j_ ka ke ko a20 a21;have qH:=O (show∀n,Fr aS w2 (u.drewN n)from fun n=>dG n hu);clear hu vX;go_wp2_with fail
 go_quiet (fail);clear a1;have mS:=qH.o nq;generalize u.drewN nq=u1 at mS ⊢;have tV:=O mS;clear mS qH;have Fz:=O (tV.o.keep mV.o id);rw[eF l_.o]at Fz;obtain⟨a0,a1,a2,a3,a4,a5,a6,a7,a8,a9,jP,jQ,a12,jN,jR,jy,j_,ka,ke,ko,a20,a21⟩:=eA (tV.o.keep mV.o id) l_.o;rw[A_.o]at a1;have xP:=HW.o;rw[xP]at a0;clear xP;clear a1 a2 a3 a4 a5 a6 a7 a8 a9 jP jQ a12 jN jR jy j_ ka ke ko a20 a21
 go_wp2_with (first|((with_reducible refine dr 34 ?_);refine aI rfl 41 (.tmp 3) rfl w.heap.size rfl _ _ (0,0) _ Fz.o underlying41 rfl af ?_)|fail)
 have tW:=tV.o;refine(HM.o _ tW).mono ?_;rintro e u5⟨rfl,hp⟩;unfold kt.val;have Mr:=tW.keep ra.o id;have px:=O (od (HH.o.dm tW) tE.o hp Mr dM ab);have HP:=O (show dp base w B pv (x.set i r.1) u5 from cJ fU.o (cJ tW (kF (HH.o.dm tW) tE.o hp)));clear hp Mr tW HM
 go_wp2_with (first|((with_reducible refine cZ 30 ?_);refine aF rfl 30 (.tmp 4) (.tmp 35) rfl (w.heap.size+1) #[.int .i64 r.2.what,.string r.2.head,.int .i64 r.2.cert] rfl rfl _ bU px.o (bf _ rfl) rfl cC ?_)|fail)
 refine aW (bw bD _ _ (w.heap.size+1) 30 #[.int .i64 r.2.what,.string r.2.head,.int .i64 r.2.cert] (0,0) _ rfl (a_ _ (w.heap.size+1) _ _ _ _ px.o) underlying30 rfl (bf _ rfl)) rfl ?_;unfold kf;rw[HR.o];exact⟨rfl,eC HP.o py.o pn.o (bX _) px.o dM ag _⟩
