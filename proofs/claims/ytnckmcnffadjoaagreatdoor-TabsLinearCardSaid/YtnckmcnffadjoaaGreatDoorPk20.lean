/- Lemmas for the law's walk. -/
import Derived.Test.YtnckmcnffadjoaaGreatDoorPk28
import Derived.Great.Walk
set_option maxRecDepth 100000
set_option maxHeartbeats 16000000
set_option linter.unusedSimpArgs false
namespace Go.Proofs.YtnckmcnffadjoaaGreatDoor
open Go.Proofs.Tryz
open Go.RowKit
variable {o:iE} {d r:List (Nat×Nat)} {c:Nat×Nat} {p i base A B n bs R:Nat} {f:Nat->Nat->Int} {S:World->Prop} {v sv va:Value} {e:Ending} {g:Nat->rC} {t':fB} {x:vo} {l:List Int} {W V:World} {q q':aZ} {sb:Nat->Nat}
theorem MM(o:iE):(mD o).Pairwise (fun x y=>x.2<y.2):=by
 unfold mD;cases h0:(cO o).1.testBit 0<;>cases h1:(cO o).1.testBit 1<;>cases h2:(cO o).1.testBit 2<;>cases h3:(cO o).1.testBit 3<;>simp[h0,h1,h2,h3]
theorem MN(o:iE):(mD o).length<=4:=List.length_filterMap_le _ [0,1,2,3]
theorem Xw(h:mD o=d++c :: r):c∉d:=fun hc=>by
 have hp:=MM o;rw[h,List.pairwise_append]at hp;have:=hp.2.2 c hc c (cM ..);omega
theorem JE(h:mD o=d++c :: r):c.1<4/\c.2<4:=by
 have hm:(c.1,c.2)∈mD o:=by rw[h];simp
 obtain⟨h1,h2,h3⟩:=ER.1 hm;refine⟨?_,h1⟩;rw[h3];split
 ·decide
 ·cases hr:o.right
  ·rw[uB hr]at h2;simp at h2
  ·obtain⟨p0,p4⟩:=iX hr;omega
theorem MO(h:mD o=d++c :: r):d.length<1000:=by
 have:=MN o;rw[h]at this;simp at this;omega
def xh(d:List (Nat×Nat))(f:Nat->Nat->Int):Nat->Nat->Int:=fun p i=>if(p,i)∈d then f p i+1 else f p i
theorem Tn(f:Nat->Nat->Int):xh [] f=f:=by funext p i;simp[xh]
theorem Pt(hc:c∉d)(f:Nat->Nat->Int):xh (d++[c]) f=fun p i=>if(p,i)=c then f p i+1 else xh d f p i:=by
 funext p i
 unfold xh;by_cases e:(p,i)=c
 ·subst e;simp
 ·by_cases m:(p,i)∈d<;>simp[e,m]
theorem Xx(f:Nat->Nat->Int)(hp:p<4)(hi:i<4)(v:Int):(lu f).set (p*4+i) (.int .i64 v)=lu (fun q j=>if(q,j)=(p,i)then v else f q j):=by
 rcases(show p=0\/p=1\/p=2\/p=3 from ab)with rfl|rfl|rfl|rfl<;>rcases(show i=0\/i=1\/i=2\/i=3 from ab)with rfl|rfl|rfl|rfl<;>rfl
def AJ(d:List (Nat×Nat))(f:Nat->Nat->Int):List Int:=d.map fun c=>f c.1 c.2
theorem Tp(d:List (Nat×Nat))(c:Nat×Nat)(f:Nat->Nat->Int):AJ (d++[c]) f=AJ d f++[f c.1 c.2]:=by unfold AJ;simp
theorem xi(d:List (Nat×Nat))(f:Nat->Nat->Int):(AJ d f).length=d.length:=by unfold AJ;simp
section
variable {xw : Option (Nat × dD)} {a U U' : World} {T : Nat} {t : fB}
theorem df.Xy(h:df xw a U T t)(hp:p<4)(hi:i<4):U.cell? ⟨T,1+p*4+i,none⟩=some (.int .i64 (t.num p i)):=by
 obtain⟨_,_,_,_,g1,_⟩:=h.ex;rw[Nat.add_assoc];exact g1.num _ _ (QS t.num hp hi)
theorem df.lt(h:df xw a U T t):T<U.heap.size:=by
 obtain⟨_,_,_,_,g1,_⟩:=h.ex;exact g1.lt
theorem df.kind(h:df xw a U T t):∃c,U.heap[T]?=some (.cells c 75 (0,0)):=by
 obtain⟨_,_,_,_,g1,_⟩:=h.ex;obtain⟨c,hc,_⟩:=g1.eN;exact⟨c,hc⟩
theorem df.bump(h:df xw a U T t)(hp:p<4)(hi:i<4)(v:Int):df xw a (U.setCell ⟨T,1+p*4+i,none⟩ (.int .i64 v)) T {t with num:=fun q j=>if(q,j)=(p,i)then v else t.num q j}:=by
 obtain⟨B,g,sv,sb,h1,h2,h3,h4⟩:=h.ex;have q:=h1.afv hp hi v (Xx t.num hp hi v);rw[<-Nat.add_assoc]at q;exact kP (t':={t with num:=fun q j=>if(q,j)=(p,i)then v else t.num q j}) h1 h2 h3 h4 h.low h.fr q rfl (fun _ _ hp=>hp) (fun j hj=>⟨fun hd=>Or.inl ⟨rfl,rfl,rfl,hd⟩,(h4 j hj).2⟩)
structure AK (xw:Option (Nat×dD)) (a:World) (T:Nat) (t:fB) (base A:Nat) (f:Nat->Nat->Int) (S:World->Prop) (d:List (Nat×Nat)) (V:World):Prop where
 tabs:df xw a V T t
 rows:∃v,V.heap[A]?=some (.cells #[v] 162 (0,0))/\OwnRows base 3 1 V v ((AJ d f).map vY)
 low:a.heap.size<=base/\base<=V.heap.size/\a.heap.size<=A
 rest:S V
def ze(base A:Nat)(S:World->Prop):Prop:=∀V V' Z,S V->Fr Z V V'->(∀n,Z n->n=A\/(base<=n/\∃c,V.heap[n]?=some (.cells c 3 (0,0))))->S V'
theorem AK.dm(hS:ze base A S)(h:AK xw a T t base A f S d U)(hf:Fr aS U U'):AK xw a T t base A f S d U':=by
 obtain⟨v,h1,h2⟩:=h.rows;exact⟨h.tabs.dm hf,⟨v,hf.keep h1 id,h2.fr hf (fun _ _ h=>h)⟩,⟨h.low.1,aE h.low.2.1 hf.size,h.low.2.2⟩,hS _ _ _ h.rest hf (fun _ h=>absurd h id)⟩
theorem AK.add(hS:ze base A S)(h:AK xw a T t base A f S d U)(h1:U.heap[A]?=some (.cells #[v] 162 (0,0)))(h2:OwnRows base 3 1 U v ((AJ d f).map vY))(hp:JC base U A v (AJ d f++[f c.1 c.2]) e U') :
  e=.returned (.tuple #[])/\AK xw a T t base A f S (d++[c]) U'/\∀(n:Nat) (k:bT),U.heap[n]?=some (.cells k 41 (0,0))->U'.heap[n]?=some (.cells k 41 (0,0)):=by
 obtain⟨he,v',p1,p2,p3⟩:=hp;have hz:∀n,(n=A\/own v n)->n=A\/(base<=n/\∃c,U.heap[n]?=some (.cells c 3 (0,0))):=fun n hn=>by
  rcases hn with hn|hn
  ·exact Or.inl hn
  ·exact Or.inr ⟨h2.block n hn,h2.Ca hn⟩
 refine⟨he,⟨h.tabs.far p3 (fun n hn=>?_) (fun n hn=>?_),⟨v',p1,by rw[Tp];exact p2⟩,⟨h.low.1,aE h.low.2.1 p3.size,h.low.2.2⟩,hS _ _ _ h.rest p3 hz⟩,fun n k hn=>p3.keep hn (fun hh=>?_)⟩
 ·rcases hz n hn with rfl|⟨q,_⟩
  ·exact h.low.2.2
  ·exact aE h.low.1 q
 ·rcases hz n hn with rfl|⟨_,c,q⟩
  ·exact⟨_,_,h1,Xo⟩
  ·exact⟨_,_,q,abf⟩
 ·rcases hz n hh with rfl|⟨_,c,q⟩
  ·rw[h1]at hn;cases hn
  ·rw[q]at hn;cases hn
theorem Xz(hS:ze base A S):vq (AK xw a T t base A t.num S) o T 85 #[.pointer (some ⟨A,0,none⟩)]:=by
 intro d c r hd V hV;obtain⟨v,h1,h2⟩:=hV.rows;obtain⟨c1,c2⟩:=JE hd;refine(afV h1 (hV.tabs.Xy c1 c2) h2 hV.low.2.1 (by rw[xi];exact MO hd)).mono ?_;intro e w' hp;exact hV.add hS h1 h2 hp
theorem XA{W0:Nat}(hS:ze base A S)(hW:∀V,S V->∃cs,V.heap[W0]?=some (.cells cs 75 (0,0))/\∀q i,q<4->i<4->cs[1+q*4+i]?=some (.int .i64 (f q i))) :
  vq (AK xw a T t base A f S) o W0 86 #[.pointer (some ⟨A,0,none⟩)]:=by
 intro d c r hd V hV;obtain⟨v,h1,h2⟩:=hV.rows;obtain⟨c1,c2⟩:=JE hd;obtain⟨cs,w1,w2⟩:=hW V hV.rest;have hc:V.cell? ⟨W0,1+c.1*4+c.2,none⟩=some (.int .i64 (f c.1 c.2)):=by
  simp only[World.cell?,w1];exact w2 _ _ c1 c2
 refine(afW h1 hc h2 hV.low.2.1 (by rw[xi];exact MO hd)).mono ?_;intro e w' hp;exact hV.add hS h1 h2 hp
structure XB (xw:Option (Nat×dD)) (a:World) (T:Nat) (t:fB) (S:World->Prop) (d:List (Nat×Nat)) (V:World):Prop where
 tabs:df xw a V T {t with num:=xh d t.num}
 rest:S V
def Pu(T:Nat)(S:World->Prop):Prop:=∀V V' c,S V->V.heap[T]?=some (.cells c 75 (0,0))->Fr (one T) V V'->S V'
theorem XB.dm(hS:Pu T S)(h:XB xw a T t S d U)(hf:Fr aS U U'):XB xw a T t S d U':=by
 obtain⟨c,hc⟩:=h.tabs.kind;exact⟨h.tabs.dm hf,hS _ _ _ h.rest hc (hf.mono fun _ _ h=>absurd h id)⟩
theorem abk(hS:Pu T S)(hn:∀p i,0<=t.num p i/\t.num p i<1000000):vq (XB xw a T t S) o T 90 #[]:=by
 intro d c r hd V hV;obtain⟨c1,c2⟩:=JE hd;have ak1:=Xw hd;have hv:xh d t.num c.1 c.2=t.num c.1 c.2:=aq ak1;have hc:=hV.tabs.Xy c1 c2;rw[show({t with num:=xh d t.num}:fB).num c.1 c.2=t.num c.1 c.2 from hv]at hc;obtain⟨k,hk⟩:=hV.tabs.kind;refine(afT V T (1+c.1*4+c.2) hc (by simp[World.frozen?,hk]) (hn _ _).1 (hn _ _).2).mono ?_;rintro e w'⟨rfl,rfl⟩
 have hF:Fr (one T) V (V.setCell ⟨T,1+c.1*4+c.2,none⟩ (.int .i64 (t.num c.1 c.2+1))):=(ae (one T) V).setCell (p:=⟨T,1+c.1*4+c.2,none⟩) (fun _=>rfl) _;refine⟨rfl,⟨?_,hS _ _ _ hV.rest hk hF⟩,fun n q hq=>hF.keep hq (fun e=>?_)⟩
 ·have:=hV.tabs.bump c1 c2 (t.num c.1 c.2+1);rw[Pt ak1];have ee:(fun q j=>if(q,j)=(c.1,c.2)then t.num c.1 c.2+1 else xh d t.num q j)=(fun p i=>if(p,i)=c then t.num p i+1 else xh d t.num p i):=by
   funext q j
   by_cases e:(q,j)=c
   ·have e':(q,j)=(c.1,c.2):=e;rw[az e,az e'];have e1:q=c.1:=by rw[<-e]
    have e2:j=c.2:=by rw[<-e]
    rw[e1,e2]
   ·have e':¬(q,j)=(c.1,c.2):=e;rw[aq e,aq e']
  exact ee▸this
 ·cases(show n=T from e);rw[hk]at hq;cases hq
theorem gD.same(h:gD U T B g sv t)(hn:t'.num=t.num)(ht:∀n,n<6->nj (t'.tab n) (g n)=nj (t.tab n) (g n))(hs:t'.steps=t.steps):gD U T B g sv t' :=
 ⟨h.eN,h.main,by rw[hn];exact h.num,fun n hl=>by rw[ht n hl];exact h.tab n hl,by rw[hs];exact h.steps,h.st⟩
theorem df.main{B:Nat}{g:Nat->rC}{sv:Value}{sb:Nat->Nat}{f:FuncId}{args:bT}{R:Ending->Prop}{x':dD}(h1:gD U T B g sv t)(h2:xQ a.heap.size U (oL xw B sb t))(h3:oA a.heap.size U sv t.cU)
  (h4:∀n,n<6->((t.tab n).does≠0->jZ a.heap.size U ((g n).o,(g n).hs) (t.tab n).op)/\((t.tab n).does=2\/(t.tab n).does=3->(g n).sp=.pointer (some ⟨sb n,0,none⟩)))(lD:a.heap.size<=T)(cP:Fr aS a U)
  (hc:∀pv,cE a.heap.size U B pv t.w->aB f args U fun e w'=>R e/\dp a.heap.size U B pv x' w') :
  aB f args U fun e w'=>R e/\df xw a w' T {t with w:=x'}/\gD w' T B g sv t/\Kept U w':=by
 refine(xQ.act h2 cP (ay _) (i:=6) (B:=B) (x:=t.w) rfl hc).mono ?_;rintro e w'⟨r1,r2,r3,r4⟩;refine⟨r1,⟨⟨B,g,sv,sb,(r4.eN h1).same rfl (fun _ _=>rfl) rfl,r2.sub (fun i p hp=>?_),h3.kept r4,fun n hn=>⟨fun hd=>((h4 n hn).1 hd).kept r4,(h4 n hn).2⟩⟩,lD,r3⟩,r4.eN h1,r4⟩;by_cases e:i=6
 ·subst e;exact hp
 ·rw[aq e];unfold oL at hp ⊢;rw[aq e]at hp ⊢;exact hp
theorem df.seen{B:Nat}{g:Nat->rC}{sv:Value}{sb:Nat->Nat}{f:FuncId}{args:bT}{R:Ending->Prop}{x':dD}{i:Nat}(hi:i<6)(hd:(t.tab i).does=2\/(t.tab i).does=3)(h1:gD U T B g sv t)(h2:xQ a.heap.size U (oL xw B sb t))(h3:oA a.heap.size U sv t.cU)
  (h4:∀n,n<6->((t.tab n).does≠0->jZ a.heap.size U ((g n).o,(g n).hs) (t.tab n).op)/\((t.tab n).does=2\/(t.tab n).does=3->(g n).sp=.pointer (some ⟨sb n,0,none⟩)))(_hlow:a.heap.size<=T)(cP:Fr aS a U)
  (hc:∀pv,cE a.heap.size U (sb i) pv (t.tab i).seen->aB f args U fun e w'=>R e/\dp a.heap.size U (sb i) pv x' w') :
  aB f args U fun e w'=>R e/\(gD w' T B g sv t/\xQ a.heap.size w' (oL xw B sb (t.put i {t.tab i with seen:=x'}))/\oA a.heap.size w' sv t.cU/\(∀n,n<6->((t.tab n).does≠0->jZ a.heap.size w' ((g n).o,(g n).hs) (t.tab n).op))/\Fr aS a w')/\Kept U w':=by
 have hw:oL xw B sb t i=some (sb i,(t.tab i).seen):=by
  unfold oL;rw[aq ab,aq ab,az ⟨hi,hd⟩]
 refine(xQ.act h2 cP (ay _) hw hc).mono ?_;rintro e w'⟨r1,r2,r3,r4⟩;refine⟨r1,⟨r4.eN h1,r2.sub (fun j p hp=>?_),h3.kept r4,fun n hn hd=>((h4 n hn).1 hd).kept r4,r3⟩,r4⟩;by_cases e:j=i
 ·subst e;rw[az rfl];unfold oL at hp;rw[aq ab,aq ab]at hp;split at hp
  ·rw[<-hp];simp[fB.put]
  ·cases hp
 ·rw[aq e];unfold oL at hp ⊢;by_cases e6:j=6
  ·rw[az e6]at hp ⊢;exact hp
  ·rw[aq e6]at hp ⊢;simpa[fB.put,e]using hp
theorem df.XC(h:df xw a U T t)(hi:i<6){j:Nat}(hj:j<45)(v:Value)(hx:∀g,(nj (t.tab i) g).set j v=nj x g)(ho:x.op=(t.tab i).op)(h0:x.does≠0->(t.tab i).does≠0)(hs:x.does=2\/x.does=3->((t.tab i).does=2\/(t.tab i).does=3)/\x.seen=(t.tab i).seen) :
  df xw a (U.setCell ⟨T,17+i*45+j,none⟩ v) T (t.put i x)/\Fr (one T) U (U.setCell ⟨T,17+i*45+j,none⟩ v):=by
 obtain⟨B,g,sv,sb,h1,h2,h3,h4⟩:=h.ex;have q:=h1.Db hi hj v (hx (g i));refine⟨kP (t':=t.put i x) h1 h2 h3 h4 h.low h.fr q rfl (O2 rfl fun n hn hd=>?_) (fun n hn=>?_),q.2⟩
 ·by_cases e:n=i
  ·subst e;simp only[fB.put,eo]at hd ⊢;exact hs hd
  ·simp only[fB.put,aq e]at hd ⊢;exact⟨hd,trivial⟩
 ·by_cases e:n=i
  ·subst e;simp only[fB.put,eo];exact⟨fun hd=>Or.inl ⟨trivial,trivial,ho,h0 hd⟩,fun hd=>(h4 n hn).2 (hs hd).1⟩
  ·simp only[fB.put,aq e];exact⟨fun hd=>Or.inl ⟨trivial,trivial,trivial,hd⟩,(h4 n hn).2⟩
theorem df.at(h:df xw a U T t)(hi:i<6):∃v:rC,U.rangeAt T (17+i*45) (nj (t.tab i) v)/\U.rangeAt T (17+i*45+1) v.o.cells/\U.rangeAt T (17+i*45+26) (lu (t.tab i).num)/\U.rangeAt T (17+i*45+42) (pC (t.tab i).ec)/\((t.tab i).does≠0->jZ a.heap.size U (v.o,v.hs) (t.tab i).op):=by
 obtain⟨B,g,sv,sb,h1,h2,h3,h4⟩:=h.ex;have hr:=h1.tab i hi;refine⟨g i,hr,j5 (p:=[.int .i64 (t.tab i).does]) (q:=(g i).o.cells) hr,?_,?_,(h4 i hi).1⟩
 ·have:=j5 (p:=.int .i64 (t.tab i).does :: ((g i).o.cells++[.int .i64 (t.tab i).fails,.int .i64 (t.tab i).iG,(g i).sp])) (q:=lu (t.tab i).num) (r:=pC (t.tab i).ec) (U:=U) (b:=T) (o:=17+i*45) hr;exact this
 ·have:=j5 (p:=.int .i64 (t.tab i).does :: ((g i).o.cells++(.int .i64 (t.tab i).fails :: .int .i64 (t.tab i).iG :: (g i).sp :: lu (t.tab i).num))) (q:=pC (t.tab i).ec) (r:=[]) (U:=U) (b:=T) (o:=17+i*45) hr;exact this
theorem ac7(h:dZ 1 U v (l.map vY))(hl:l≠ []):∃b o c,v=.slice (some ⟨b,o,none⟩) l.length c/\∀j,j<l.length->U.cell? ⟨b,o+j,none⟩=some (.int .i64 (l.getD j 0)):=by
 rcases h.2 with ⟨a',c',e1,e2,e3⟩|⟨bk,o',c,hf,g1,g2,g3,g4⟩
 ·exact absurd (by simpa using e2) hl
 ·rw[ai]at hf;refine⟨bk,o',c,hf,fun j hj=>?_⟩;have:=g4 j (vY (l.getD j 0)) (by simp[List.getElem?_eq_getElem hj,List.getD_eq_getElem?_getD]) 0 _ rfl;simpa using this
theorem af0{v':Value}{l':List Int}(h:dZ 1 U v (l.map vY))(h':dZ 1 U v' (l'.map vY))(hl:l.length=l'.length)(hs:l.length<1000) :
  aB 87 #[v,v'] U fun e w'=>e=.returned (.bool (decide (l=l')))/\Fr aS U w':=by
 by_cases h0:l=[]
 ·subst h0;have Ub:l'=[]:=dK.1 hl.symm;subst Ub;obtain⟨a1,c1,e1⟩:=h.form;obtain⟨a2,c2,e2⟩:=h'.form;rw[e1,e2];refine(slices_Equal_int_empty a1 a2 c1 0 c2 U ag).mono ?_;rintro e w'⟨rfl,rfl⟩;exact⟨rfl,ae _ _⟩
 ·have Ub:l'≠ []:=fun e=>h0 (dK.1 (by rw[hl,e];rfl));obtain⟨b1,o1,c1,e1,f1⟩:=ac7 h h0;obtain⟨b2,o2,c2,e2,f2⟩:=ac7 h' Ub;rw[e1,e2];refine(slices_Equal_int b1 o1 l.length c1 b2 o2 l'.length c2 l l' U (ay _) (ay _) ab ab f1 f2).mono ?_;rintro e w'⟨rfl,q,rfl⟩;refine⟨?_,(ae aS U).drewN q⟩;rw[List.take_length,List.take_length]
  congr 2
  by_cases e:l=l'<;>simp[e]
end
theorem wpList_buildTo{P:Program}{ops:Array Oper}{rest:List Oper}{o:Oper}{a:Act}{w:World}{Q:Exit->Act->World->Prop}(hg:o.guard=none)(t:TypeId)(parts:Array (Nat×Operand))(ho:o.op=.build t parts)(dst:Option Tmp)(Pw:o.dst=dst)
  (vs:List (Nat×Value))(he:(parts.map fun(i,x)=>(i,a.eval x)).toList=vs)(cells:bT)(hf:P.built t vs=some cells)
  (h:wpList P ops Q rest (a.put dst (.agg cells)) w):wpList P ops Q (o :: rest) a w:=by
 subst Pw;refine wpList_build hg t parts ho (by rw[he,hf];rfl) ?_;rw[he,hf];exact h
theorem wpList_boxTo{P:Program}{ops:Array Oper}{rest:List Oper}{o:Oper}{a:Act}{w:World}{Q:Exit->Act->World->Prop}(hg:o.guard=none)(t:TypeId)(x:Operand)(ho:o.op=.box t x)(dst:Option Tmp)(Pw:o.dst=dst)
  (cells:bT)(hx:a.eval x=.agg cells)
  (h:wpList P ops Q rest (a.put dst (.pointer (some ⟨w.heap.size,0,none⟩))) (w.alloc (.cells cells t))):wpList P ops Q (o :: rest) a w:=by
 refine Great.wpList_runTo hg dst Pw (.pointer (some ⟨w.heap.size,0,none⟩)) _ ?_ h;unfold execOp;simp[ho,Instr.box,newVar,newRow,hx,Value.cells,Result.andThen]
theorem jh{P:Program}{ops:Array Oper}{rest:List Oper}{o:Oper}{a:Act}{w:World}{Q:Exit->Act->World->Prop}(hg:o.guard=none)(t:TypeId)(ho:o.op=.alloc t)(dst:Option Tmp)(Pw:o.dst=dst)
  (cells:bT)(hi:(P.info? t).map (·.zero)=some (some (.agg cells)))(N:Nat)(hN:w.heap.size=N)
  (h:wpList P ops Q rest (a.put dst (.pointer (some ⟨N,0,none⟩))) (w.alloc (.cells cells t))):wpList P ops Q (o :: rest) a w:=by
 subst hN;refine Great.wpList_runTo hg dst Pw (.pointer (some ⟨w.heap.size,0,none⟩)) _ ?_ h;cases Xu:P.info? t with
 |none=>simp[Xu]at hi
 |some ie =>
  simp only[Xu,Option.map_some,eb]at hi;unfold execOp;simp[ho,Instr.alloc,zeroValue,typeInfo,Xu,hi,newVar,newRow,Value.cells,Sem.run_bind,Result.andThen]
def AL(p:Value)(f:Nat->Nat->Int):aZ:=p :: (lu f++((List.replicate 6 (nj fo zeroV)).flatten++[.int .i64 0,.slice none 0 0]))
theorem XD(B:Nat):prog.built 75 [(0,.pointer (some ⟨B,0,none⟩))]=some (AL (.pointer (some ⟨B,0,none⟩)) (fun _ _=>0)).toArray:=af
theorem abm(p:Value)(f:Nat->Nat->Int)(hn:n<6):AL p f=(AL p f).take (17+n*45)++(nj fo zeroV++(AL p f).drop (17+n*45+45)):=by
 rcases(show n=0\/n=1\/n=2\/n=3\/n=4\/n=5 from ab)with rfl|rfl|rfl|rfl|rfl|rfl<;>rfl
section
variable {xw : Option (Nat × dD)} {a U U' : World} {T : Nat} {t : fB}
theorem XE{T:Nat}{pv:Nat->cY}(hf:Fr aS a W)(hT:a.heap.size<=T)(hb:W.heap[T]?=some (.cells (AL (.pointer (some ⟨B,0,none⟩)) (fun _ _=>0)).toArray 75 (0,0)))(hw:cE a.heap.size W B pv yW):df none a W T sq:=by
 have hr:=vG hb;refine⟨⟨B,fun _=>zeroV,.slice none 0 0,fun _=>0,⟨⟨_,hb,rfl⟩,hr 0 _ rfl,?_,fun n hn=>?_,hr 287 _ rfl,hr 288 _ rfl⟩,⟨fun _=>pv,?_,?_⟩,⟨[],rfl,dB _ _ _ _,fun _ h=>(by cases h)⟩,fun n hn=>⟨fun h=>absurd rfl h,fun h=>by rcases h with h|h<;>cases h⟩⟩,hT,hf⟩
 ·exact j5 (p:=[_]) (q:=lu (fun _ _=>0)) hr
 ·rw[abm _ _ hn]at hr;have:=j5 hr
  rwa [show 0+((AL (.pointer (some ⟨B,0,none⟩)) (fun _ _=>0)).take (17+n*45)).length=17+n*45 by
   rw[aJ,show(AL (.pointer (some ⟨B,0,none⟩)) (fun _ _=>0)).length=289 from rfl];omega]at this
 ·intro i C x hi;unfold oL at hi;split at hi
  ·cases hi;exact hw
  ·split at hi
   ·cases hi
   ·split at hi
    ·rename_i h;rcases h.2 with h|h<;>cases h
    ·cases hi
 ·intro i j C x D y Rl hi hj;exfalso;have key:∀k E z,oL none B (fun _=>0) sq k=some (E,z)->k=6:=fun k E z hk=>by
   unfold oL at hk;split at hk
   ·assumption
   ·split at hk
    ·cases hk
    ·split at hk
     ·rename_i h;rcases h.2 with h|h<;>cases h
     ·cases hk
  exact Rl ((key _ _ _ hi).trans (key _ _ _ hj).symm)
theorem MQ(hf:Fr aS a U):aB 22 #[] U fun e w'=>∃T,e=.returned (.pointer (some ⟨T,0,none⟩))/\df none a w' T sq/\Fr aS U w':=by
 go_enter func22,ntmps22;go_wp2_with fail
 refine(JF U).mono ?_;rintro e u⟨B,pv,rfl,hw,hu⟩;have HE:=O (XE (a:=a) (W:=u.alloc (.cells (AL (.pointer (some ⟨B,0,none⟩)) (fun _ _=>0)).toArray 75)) (T:=u.heap.size) (B:=B) (pv:=pv) ((hf.trans hu).alloc _) (hf.trans hu).size (aC _ _) ((hw _ hf.size).dm ((ae aS u).alloc _)));have HUF:=O hu;clear hw hu;obtain⟨x,hx⟩:∃x,x=AL (.pointer (some ⟨B,0,none⟩)) (fun _ _=>0):=⟨_,rfl⟩;have HX:=O hx
 rw[<-hx]at HE;dsimp only;refine ‹∀ (a:Act) (w:World),wpList _ _ _ _ a w->_› _ _ ?_;refine wpList_buildTo rfl 75 _ rfl (some 2) rfl [(0,.pointer (some ⟨B,0,none⟩))] (by simp only[eH,cF,dv];rfl) x.toArray (by rw[HX.o];exact XD B) ?_;clear hx;refine wpList_boxTo rfl 75 (.tmp 2) rfl (some 3) rfl x.toArray rfl ?_;go_wp2;go_ret;exact⟨_,rfl,HE.o,HUF.o.alloc _⟩
end
theorem XF(f:Nat->Nat->Int):prog.built 75 [(1,.agg (lu f).toArray)]=some (AL (.pointer none) f).toArray:=af
theorem XG:(prog.info? 75).map (·.zero)=some (some (.agg (AL (.pointer none) (fun _ _=>0)).toArray)):=af
theorem XH:(prog.info? 75).map (·.size)=some 289:=af
theorem abn(f:Nat->Nat->Int):(AL (.pointer none) f).toArray.all (·.oneCell')=true :=
 b_ (by
  intro u hu;unfold AL at hu;rcases bC.1 hu with rfl|hu
  ·rfl
  ·rcases bL.1 hu with hu|hu
   ·unfold lu at hu;simp only[bC,cA,dY]at hu;rcases hu with rfl|rfl|rfl|rfl|rfl|rfl|rfl|rfl|rfl|rfl|rfl|rfl|rfl|rfl|rfl|rfl<;>rfl
   ·rcases bL.1 hu with hu|hu
    ·obtain⟨l,hl,hul⟩:=fR.1 hu;rw[List.eq_of_mem_replicate hl]at hul;have:=AE fo zeroV rfl rfl;rw[List.all_toArray,gH]at this;exact this u hul
    ·simp only[bC,cA,dY]at hu;rcases hu with rfl|rfl<;>rfl)
theorem abo(p:Value)(f:Nat->Nat->Int){q:Nat}(hq:q<4)(hi:i<4):(AL p f).toArray[1+q*4+i]?=some (.int .i64 (f q i)):=by
 have:=QS f hq hi;rw[List.getElem?_toArray,Nat.add_assoc];unfold AL;rw[Nat.add_comm 1,List.getElem?_cons_succ,List.getElem?_append_left (by rw[nK];omega)];exact this
def AM(U:World)(f:Nat->Nat->Int):World:=(((U.alloc (.cells bU 30)).alloc (.cells (AL (.pointer none) (fun _ _=>0)).toArray 75)).setRow (U.heap.size+1) (AL (.pointer none) f).toArray)
def CP(U:World)(f:Nat->Nat->Int):World:=((AM U f).alloc (.cells #[.slice none 0 0] 162)).alloc (.cells #[.slice none 0 0] 162)
section
variable {xw : Option (Nat × dD)} {a U U' : World} {T : Nat} {t : fB}
theorem H'(U:World)(f:Nat->Nat->Int):(AM U f).heap.size=U.heap.size+2:=by
 unfold AM;rw[World.setRow];simp[Array.size_modify]
theorem E_(U:World)(f:Nat->Nat->Int):Fr aS U (CP U f)/\(CP U f).heap.size=U.heap.size+4/\(CP U f).heap[U.heap.size]?=some (.cells bU 30 (0,0))/\(CP U f).heap[U.heap.size+1]?=some (.cells (AL (.pointer none) f).toArray 75 (0,0))/\(CP U f).heap[U.heap.size+2]?=some (.cells #[.slice none 0 0] 162 (0,0))/\(CP U f).heap[U.heap.size+3]?=some (.cells #[.slice none 0 0] 162 (0,0)):=by
 have s1:(U.alloc (.cells bU 30)).heap.size=U.heap.size+1:=aR;have b1:=aC (U.alloc (.cells bU 30)) (.cells (AL (.pointer none) (fun _ _=>0)).toArray 75);rw[s1]at b1;have b2:(AM U f).heap[U.heap.size+1]?=some (.cells (AL (.pointer none) f).toArray 75 (0,0)):=k_ b1;have f0:Fr aS U (U.alloc (.cells bU 30)):=(ae _ _).alloc _
 have f1:Fr aS (U.alloc (.cells bU 30)) (AM U f):=je ((ae _ _).alloc _) (by rw[s1];exact ay _) _;have r1:(AM U f).heap[U.heap.size]?=some (.cells bU 30 (0,0)):=f1.keep (aC U _) id;have sw:=H' U f;have a1:=aC (AM U f) (.cells #[.slice none 0 0] 162);have a2:=aC ((AM U f).alloc (.cells #[.slice none 0 0] 162)) (.cells #[.slice none 0 0] 162)
 have s2:((AM U f).alloc (.cells #[.slice none 0 0] 162)).heap.size=U.heap.size+3:=by simp[sw]
 rw[sw]at a1;rw[s2]at a2;have f2:Fr aS (AM U f) ((AM U f).alloc (.cells #[.slice none 0 0] 162)):=(ae _ _).alloc _;have f3:Fr aS ((AM U f).alloc (.cells #[.slice none 0 0] 162)) (CP U f):=(ae _ _).alloc _;exact⟨((f0.trans f1).trans f2).trans f3,by unfold CP;simp[sw],f3.keep (f2.keep r1 id) id,f3.keep (f2.keep b2 id) id,f3.keep a1 id,a2⟩
structure St1 (U:World) (f:Nat->Nat->Int) (V:World):Prop where
 rep:V.heap[U.heap.size]?=some (.cells bU 30 (0,0))
 was:V.heap[U.heap.size+1]?=some (.cells (AL (.pointer none) f).toArray 75 (0,0))
 var:V.heap[U.heap.size+3]?=some (.cells #[.slice none 0 0] 162 (0,0))
 kept:gW U V
theorem St1.keeps(U:World)(f:Nat->Nat->Int)(hb:U.heap.size+4<=base):ze base (U.heap.size+2) (St1 U f):=by
 intro V V' Z h hf hz;have key:∀n,n<U.heap.size+4->n≠U.heap.size+2->¬Z n:=fun n h1 h2 h3=>by
  rcases hz n h3 with e|⟨e,_⟩
  ·exact h2 e
  ·omega
 exact⟨hf.keep h.rep (key _ ab ab),hf.keep h.was (key _ ab ab),hf.keep h.var (key _ ab ab),h.kept.step hf fun n c e hn _ _ q=>key n ab ab q⟩
structure YO (U:World) (f:Nat->Nat->Int) (bs:Nat) (va:Value) (l:List Int) (V:World):Prop where
 rep:V.heap[U.heap.size]?=some (.cells bU 30 (0,0))
 was:V.heap[U.heap.size+1]?=some (.cells (AL (.pointer none) f).toArray 75 (0,0))
 var:V.heap[U.heap.size+2]?=some (.cells #[va] 162 (0,0))
 rows:OwnRows bs 3 1 V va (l.map vY)
 kept:gW U V
theorem YO.keeps(U:World)(f:Nat->Nat->Int)(hb:U.heap.size+4<=base)(hv:∀b,va.ownBlock=some b->b<base/\b≠U.heap.size+3):ze base (U.heap.size+3) (YO U f bs va l):=by
 intro V V' Z h hf hz;have key:∀n,n<base->n≠U.heap.size+3->¬Z n:=fun n h1 h2 h3=>by
  rcases hz n h3 with e|⟨e,_⟩
  ·exact h2 e
  ·omega
 exact⟨hf.keep h.rep (key _ ab ab),hf.keep h.was (key _ ab ab),hf.keep h.var (key _ ab ab),h.rows.fr hf fun b hb q=>key b (hv b hb).1 (hv b hb).2 q,h.kept.step hf fun n c e hn _ _ q=>key n ab ab q⟩
theorem YO.dm{V':World}(h:YO U f bs va l V)(hf:Fr aS V V'):YO U f bs va l V' :=
 ⟨hf.keep h.rep id,hf.keep h.was id,hf.keep h.var id,h.rows.fr hf (fun _ _ h=>h),h.kept.trans (eL hf)⟩
theorem Ts(h:df xw a U T t)(f:Nat->Nat->Int)(hW:W=CP U f)(o:jO)(hs:List ig)(ho:gM W o hs) :
  aB 84 #[.pointer (some ⟨T,0,none⟩),.agg o.cells.toArray,.func (.func 85) #[] #[.pointer (some ⟨U.heap.size+2,0,none⟩)]] W fun e w'=>e=.returned (.tuple #[])/\AK xw a T t (U.heap.size+4) (U.heap.size+2) t.num (St1 U f) (mD (o.dW hs)) w':=by
 subst hW;obtain⟨c1,c2,c3,c4,c5,c6⟩:=E_ U f;have hk:=St1.keeps U f (ay _);refine xf (CP U f) T o hs _ _ call85 (AK xw a T t (U.heap.size+4) (U.heap.size+2) t.num (St1 U f)) ?_ (fun d V V' hV hf=>hV.dm hk hf) (Xz hk) ho;have:=h.fr.size;exact⟨h.dm c1,⟨_,c5,dB _ _ _ _⟩,⟨ab,ab,ab⟩,⟨c3,c4,c6,eL c1⟩⟩
theorem Px{l:List (Nat×Nat)}(hV:AK xw a T t (U.heap.size+4) (U.heap.size+2) t.num (St1 U f) l V)(o:jO)(hs:List ig)(ho:gM V o hs) :
  ∃va,aB 84 #[.pointer (some ⟨U.heap.size+1,0,none⟩),.agg o.cells.toArray,.func (.func 86) #[] #[.pointer (some ⟨U.heap.size+3,0,none⟩)]] V fun e w'=>e=.returned (.tuple #[])/\AK xw a T t V.heap.size (U.heap.size+3) f (YO U f (U.heap.size+4) va (AJ l t.num)) (mD (o.dW hs)) w':=by
 obtain⟨va,v1,v2⟩:=hV.rows;have hl:=hV.low;have hk:ze V.heap.size (U.heap.size+3) (YO U f (U.heap.size+4) va (AJ l t.num)):=YO.keeps U f hl.2.1 fun b hb=>⟨v2.lt b hb,by have:=v2.block b hb;omega⟩
 refine⟨va,xf V _ o hs _ _ call86 (AK xw a T t V.heap.size (U.heap.size+3) f (YO U f (U.heap.size+4) va (AJ l t.num))) ?_ (fun d V V' hV hf=>hV.dm hk hf) (XA hk (fun W hW=>⟨_,hW.was,fun q i hq hi=>abo _ f hq hi⟩)) ho⟩;exact⟨hV.tabs,⟨_,hV.rest.var,dB _ _ _ _⟩,⟨ab,ay _,ab⟩,⟨hV.rest.rep,hV.rest.was,v1,v2,hV.rest.kept⟩⟩
theorem XI{l:List (Nat×Nat)}(hl:l=mD o)(hV:AK xw a T t bs (U.heap.size+3) f (YO U f (U.heap.size+4) va (AJ l t.num)) l V) :
  ∃vb,V.cell? ⟨U.heap.size+2,0,none⟩=some va/\V.cell? ⟨U.heap.size+3,0,none⟩=some vb/\(∃a1 n1 c1,va=.slice a1 n1 c1)/\(∃a1 n1 c1,vb=.slice a1 n1 c1)/\aB 87 #[va,vb] V fun e w'=>e=.returned (.bool (decide (vF o t.num=vF o f)))/\Fr aS V w':=by
 obtain⟨vb,w1,w2⟩:=hV.rows;have r:=hV.rest;obtain⟨a1,c1,e1⟩:=r.rows.form;obtain⟨a2,c2,e2⟩:=w2.form;refine⟨vb,by simp[World.cell?,r.var],by simp[World.cell?,w1],⟨_,_,_,e1⟩,⟨_,_,_,e2⟩,?_⟩;have:=af0 (l:=AJ l t.num) (l':=AJ l f) r.rows.at w2.at (by rw[xi,xi]) (by rw[xi,hl];have:=MN o;omega);rw[hl]at this;exact this
end
section
variable {xw : Option (Nat × dD)} {a U U' : World} {T : Nat} {t : fB}
def QZ(xw:Option (Nat×dD))(a U:World)(T:Nat)(r:fB×(kt×Bool))(e:Ending)(w':World):Prop :=
 e=.returned (.tuple #[.agg #[.int .i64 r.2.1.what,.string r.2.1.head,.int .i64 r.2.1.cert],.bool r.2.2,.nilIface])/\df xw a w' T r.1/\gW U w'
theorem Dd{r:kt×Bool}(h:df xw a W T t')(hk:gW U W)(hR:U.heap.size<=R)(ha:a.heap.size<=R)(hr:W.heap[R]?=some (.cells bU 30 (0,0)))(cs:bT)(he:e=.returned (.tuple #[.agg #[.int .i64 r.1.what,.string r.1.head,.int .i64 r.1.cert],.bool r.2,.nilIface])):QZ xw a U T (t',r) e (W.setRow R cs) :=
 ⟨he,h.far ((ae (one R) _).setRow (fun _=>rfl) _) (fun n hn=>by have e':n=R:=hn;omega) (fun n hn=>by cases(show n=R from hn);exact⟨_,_,hr,JB⟩),hk.new ((ae (one R) _).setRow (fun _=>rfl) _) hR⟩
theorem abp(t:fB)(n:Nat)(x y:vo):(t.put n x).put n y=t.put n y:=by
 unfold fB.put;simp only
 congr 1
 funext i
 split<;>rfl
theorem jZ.fits{v:rC}(h:jZ base V (v.o,v.hs) o):gM V v.o v.hs/\v.o.dW v.hs=o:=⟨h.fit,h.is⟩
theorem Py(h:df xw a U T t)(hi:i<6)(hd:(t.tab i).does=3){k:Int}(hk:k<1000000)(hf:gF k t)(hl:t.cU.length<1000000) :
  aB 43 #[.pointer (some ⟨T,0,none⟩),.int .i64 i,.pointer (some ⟨T,17+i*45,none⟩)] U (QZ xw a U T (iB t i)):=by
 have hd0:(t.tab i).does≠0:=ab;obtain⟨c1,c2,c3,c4,c5,c6⟩:=E_ U (t.tab i).num;obtain⟨W4,hW4⟩:∃W4,W4=CP U (t.tab i).num:=⟨_,rfl⟩;rw[<-hW4]at c1 c2 c3 c4 c5 c6;have h4:=h.dm c1;obtain⟨v, -, v1, -, -, v4⟩:=h4.at hi;obtain⟨v4a,v4b⟩:=(v4 hd0).fits;have HV1:=O v1;have QY:=O (Ts h (t.tab i).num hW4 v.o v.hs v4a);rw[v4b]at QY;have oH:=h.lt;obtain⟨_, -, -, n0, -, -⟩:=h.at hi
 have HN0:=O (show(U.alloc (.cells bU 30)).rangeAt T (17+i*45+26) (lu (t.tab i).num)from ql n0 ((ae aS U).alloc _) id);have OG:=O hW4;have YM:=O hk;have AO:=O hf;have HL:=O hl;have HD:=O hd;have HI:=O hi;have HA:=O h.fr.size
 have Ey:=O (show((U.alloc (.cells bU 30)).alloc (.cells (AL (.pointer none) (fun _ _=>0)).toArray 75)).heap[U.heap.size+1]?=some (.cells (AL (.pointer none) (fun _ _=>0)).toArray 75 (0,0))from by
  have:=aC (U.alloc (.cells bU 30)) (.cells (AL (.pointer none) (fun _ _=>0)).toArray 75);simpa using this)
 obtain⟨f,N1⟩:∃f,f=(t.tab i).num:=⟨_,rfl⟩;rw[<-N1]at HN0 QY OG;have HF:=O N1;clear h h4 v1 v4 v4a v4b n0 c1 c2 c3 c4 c5 c6 hW4 hk hf hl hd hd0 N1;unfold CP at OG;go_enter func43,ntmps43
 go_wp2_with (first|((with_reducible refine dr 18 ?_);refine aY rfl 70 (.tmp 17) rfl T (17+i*45+26) rfl (lu f) _ HN0.o underlying70 rfl af ?_;refine wpList_buildTo rfl 75 _ rfl (some 19) rfl [(1,.agg (lu f).toArray)] (by simp only[eH,cF,dv];rfl) (AL (.pointer none) f).toArray (XF f) ?_;refine jh rfl 75 rfl (some 9) rfl (AL (.pointer none) (fun _ _=>0)).toArray XG (U.heap.size+1) aR ?_;refine aF rfl 75 (.tmp 9) (.tmp 19) rfl (U.heap.size+1) (AL (.pointer none) f).toArray rfl rfl 75 (AL (.pointer none) (fun _ _=>0)).toArray Ey.o XH rfl (abn f) ?_;change wpList _ _ _ _ _ (AM U f);have Nf:=H' U f;generalize AM U f=W2 at *)|((with_reducible refine dr 24 ?_);rw[<-OG.o];refine aY rfl 41 (.tmp 23) rfl T (17+i*45+1) rfl v.o.cells _ HV1.o underlying41 rfl af ?_)|fail)
 refine QY.o.mono ?_;rintro e u⟨rfl,hu⟩;clear Nf OG HV1 QY Ey HN0;obtain⟨v2, -, m1, -, -, m4⟩:=hu.tabs.at HI.o;obtain⟨m4a,m4b⟩:=(m4 (by rw[HD.o];decide)).fits;obtain⟨va,hcs⟩:=Px hu v2.o v2.hs m4a;rw[m4b]at hcs;have HV2:=O m1;have xz:=O hcs;clear hu m1 m4 m4a m4b hcs
 go_wp2_with (first|((with_reducible refine dr 30 ?_);refine aY rfl 41 (.tmp 29) rfl T (17+i*45+1) rfl v2.o.cells _ HV2.o underlying41 rfl af ?_)|fail)
 refine xz.o.mono ?_;rintro e u2⟨rfl,nC⟩;obtain⟨vb,d1,d2,⟨a1,n1,b1,rfl⟩,⟨a2,n2,b2,rfl⟩,hce⟩:=XI rfl nC;have HCE:=O hce;have t_:=O nC;clear nC hce HV2 xz;go_wp2_with fail
 refine HCE.o.mono ?_;rintro e u3⟨rfl,Ab⟩;have SV:=O (t_.o.tabs.dm Ab);have r3:=t_.o.rest.dm Ab;have VD:=O r3.rep;have Te:=O r3.kept;clear d1 d2 Ab r3 HCE t_;rw[HF.o];clear HF;obtain⟨R,hR⟩:∃R,R=U.heap.size:=⟨_,rfl⟩;have YP:=O (show U.heap.size<=R from ab);have YQ:=O (show a.heap.size<=R by have:=HA.o;omega);rw[<-hR]at VD ⊢;clear hR;have hfi:=AO.o.fails i
 by_cases hv:vF (t.tab i).op t.num=vF (t.tab i).op (t.tab i).num
 ·rw[bJ hv];obtain⟨v3, -, k1, -, k3,k4⟩:=SV.o.at HI.o;obtain⟨k4a,k4b⟩:=(k4 (by rw[HD.o];decide)).fits;have xY:=BN u3 v3.o v3.hs k4a;rw[k4b]at xY;have FN:=O xY;have T9:=O k1;clear xY k1 k3 k4 k4a k4b hfi;cases hw:(cO (t.tab i).op).2
  ·as_aux_lemma =>
    have HE:=O (show iB t i=(ja t i (t.tab i).ec,(t.tab i).ec,true)by unfold iB;rw[az hv,hw];rfl);rw[hw]at FN;clear hv hw;go_wp2_with (first|((with_reducible refine dr 66 ?_);refine aY rfl 41 (.tmp 65) rfl T (17+i*45+1) rfl v3.o.cells _ T9.o underlying41 rfl af ?_)|fail)
    refine FN.o.mono ?_;rintro e u4⟨rfl,C'⟩;have ht4:=SV.o.dm C';obtain⟨-, -, -, -, k3, -⟩:=ht4.at HI.o;have HV4:=O k3;have HEN:=O (E5 ht4 HI.o (t.tab i).ec (by rw[HD.o];decide) HL.o);have Yw:=O (C'.keep VD.o id);have TM:=O (Te.o.trans (eL C'));clear C' ht4 k3 FN T9 SV VD Te;generalize (t.tab i).ec=rr at *
    go_wp2_with (first|((with_reducible refine dr 99 ?_);refine aY rfl 30 (.tmp 98) rfl T (17+i*45+42) rfl (pC rr) _ HV4.o underlying30 rfl af ?_)|fail)
    refine HEN.o.mono ?_;rintro e u5⟨rfl,z1,z2⟩;have Ia:=O (z2.block Yw.o su);have Q0:=O z1;have HZ2:=O (TM.o.trans z2);clear z1 z2;go_wp2_with (first|((with_reducible refine cZ 30 ?_);refine aF rfl 30 (.tmp 6) (.tmp 101) rfl R #[.int .i64 rr.what,.string rr.head,.int .i64 rr.cert] rfl rfl _ bU Ia.o (bf _ rfl) rfl cC ?_)|fail)
    refine aW (jB bD _ _ R 30 #[.int .i64 rr.what,.string rr.head,.int .i64 rr.cert] (0,0) _ rfl (a_ _ R _ _ _ _ Ia.o) underlying30 rfl (bf _ rfl)) rfl ?_;rw[HE.o];exact Dd Q0.o HZ2.o YP.o YQ.o Ia.o _ rfl
  ·as_aux_lemma =>
    have HE:=O (show iB t i=(ja {t with w:=kh t.w (t.tab i).seen (t.tab i).op.part (cO (t.tab i).op).1,num:=AD (t.tab i).op t.num} i (t.tab i).ec,(t.tab i).ec,true)by unfold iB;rw[az hv,hw];rfl);rw[hw]at FN;clear hv hw;go_wp2_with (first|((with_reducible refine dr 66 ?_);refine aY rfl 41 (.tmp 65) rfl T (17+i*45+1) rfl v3.o.cells _ T9.o underlying41 rfl af ?_)|fail)
    refine FN.o.mono ?_;rintro e u4⟨rfl,C'⟩;have ht4:=SV.o.dm C'.drew;have Yw:=O (show u4.drew.heap[R]?=some (.cells bU 30 (0,0))from C'.drew.keep VD.o id);have TM:=O (Te.o.trans (eL C'.drew));obtain⟨B,g,sv,sb,p1,p2,p3,p4⟩:=ht4.ex;have qI:=(p4 i HI.o).2 (Or.inr HD.o);have C8:(g i).o.aN.part=(t.tab i).op.part:=by rw[<-((p4 i HI.o).1 (by rw[HD.o];decide)).is];rfl
    have Rj:=O (df.main p1 p2 p3 p4 ht4.low ht4.fr (x':=kh t.w (t.tab i).seen (t.tab i).op.part (cO (t.tab i).op).1) (fun pv hw=>by
     obtain⟨qv,hq⟩:=p2.at (i:=i) (B:=sb i) (x:=(t.tab i).seen) (by
      have:=HI.o;unfold oL;rw[aq ab,aq ab,az ⟨HI.o,Or.inr HD.o⟩])
     exact Tm hw hq (AO.o.seen i (Or.inr HD.o)) (t.tab i).op.part (Tf _)))
    have m0:=p1.main;have m25:u4.drew.cell? ⟨T,17+i*45+25,none⟩=some (.pointer (some ⟨sb i,0,none⟩)):=by rw[<-qI];exact p1.tab i HI.o 25 _ rfl
    have m2:u4.drew.cell? ⟨T,17+i*45+1+1,none⟩=some (.int .i64 (t.tab i).op.part):=by rw[<-C8];exact p1.tab i HI.o 2 _ rfl
    have xn:=O qI;have HPT:=O C8;clear C' ht4 p1 p2 p3 p4 qI C8 FN T9 SV VD Te;obtain⟨cn,hcn⟩:∃cn:Nat,cn=(cO (t.tab i).op).1:=⟨_,rfl⟩;obtain⟨pt,C8⟩:∃pt:Int,pt=(t.tab i).op.part:=⟨_,rfl⟩;have HCN:=O hcn;have HPN:=O C8;rw[<-hcn, <-C8]at Rj;rw[<-C8]at m2;rw[<-hcn];clear hcn C8;go_wp2_with fail
    refine wp_region_held_drew (S:=(fun V=>V.cell? ⟨T,0,none⟩=some (.pointer (some ⟨B,0,none⟩))/\V.cell? ⟨T,17+i*45+25,none⟩=some (.pointer (some ⟨sb i,0,none⟩))/\V.cell? ⟨T,17+i*45+1+1,none⟩=some (.int .i64 pt))) af (by exact⟨m0,m25,m2⟩) ?_;intro zl;refine aU 0 71 rfl ?_;refine aU 1 72 rfl ?_;refine aU 2 73 rfl ?_;refine aU 3 74 rfl ?_;refine aU 4 75 rfl ?_;refine aU 5 76 rfl ?_;refine aU 6 77 rfl ?_
    refine aU 7 78 rfl ?_;refine aU 8 79 rfl ?_;refine aU 9 80 rfl ?_;refine aU 10 81 rfl ?_;refine aU 11 82 rfl ?_;refine aU 12 83 rfl ?_;refine aU 13 84 rfl ?_;refine aU 14 85 rfl ?_;refine eR 15 rfl fun K hK=>?_;go_simp;refine Rj.o.mono ?_;rintro e u5⟨rfl,z1,z2,z3⟩;have Q0:=O z1;have Ia:=O ((gW.O7 z3).block Yw.o su);have HK5:=O (TM.o.trans (gW.O7 z3))
    have xF:u5.cell? ⟨T,0,none⟩=some (.pointer (some ⟨B,0,none⟩))/\u5.cell? ⟨T,17+i*45+25,none⟩=some (.pointer (some ⟨sb i,0,none⟩))/\u5.cell? ⟨T,17+i*45+1+1,none⟩=some (.int .i64 pt):=⟨z2.main,by rw[<-xn.o];exact z2.tab i HI.o 25 _ rfl,by rw[HPN.o, <-HPT.o];exact z2.tab i HI.o 2 _ rfl⟩;refine hK.out _ _ xF ?_;intro Aw;clear hK K zl xF Aw z1 z2 z3 m0 m25 m2 Rj Yw TM;refine wpAnyH_done af ?_ _
    have ht5:=Q0.o;obtain⟨v6, -, k1, -, -, k4⟩:=ht5.at HI.o;obtain⟨k4a,k4b⟩:=(k4 (show((t.tab i).does≠0)by rw[HD.o];decide)).fits;have hkp:Pu T (fun V=>V.heap[R]?=some (.cells bU 30 (0,0))/\gW U V):=fun V V' c hS hc hF=>⟨hF.keep hS.1 (fun e=>by
     cases(show R=T from e);have:=hS.1;rw[hc]at this;cases this),hS.2.tabs hc hF⟩
    have hnu:=xf u5 T v6.o v6.hs _ #[] call90 (XB xw a T {t with w:=kh t.w (t.tab i).seen pt cn} (fun V=>V.heap[R]?=some (.cells bU 30 (0,0))/\gW U V)) ⟨by rw[Tn];exact ht5,Ia.o,HK5.o⟩ (fun d V V' hV hf=>hV.dm hkp hf) (abk hkp (fun p i=>⟨(AO.o.num p i).1,by have h1:=(AO.o.num p i).2;have h2:=YM.o;show t.num p i<_;omega⟩)) k4a;rw[show v6.o.dW v6.hs=(t.tab i).op from k4b]at hnu;have HNU:=O hnu
    have HV6:=O k1;clear ht5 k1 k4 k4a k4b hkp hnu Q0 Ia HK5;go_wp2_with (first|((with_reducible refine dr 91 ?_);refine aY rfl 41 (.tmp 90) rfl T (17+i*45+1) rfl v6.o.cells _ HV6.o underlying41 rfl af ?_)|fail)
    refine HNU.o.mono ?_;rintro e u6⟨rfl,hu6⟩;have ht6:=hu6.tabs;obtain⟨-, -, -, -, k3, -⟩:=ht6.at HI.o;have HV4:=O (show u6.rangeAt T (17+i*45+42) (pC (t.tab i).ec)from k3);have hen:=E5 ht6 HI.o (t.tab i).ec (show(t.tab i).does≠0 by rw[HD.o];decide) HL.o;have Yw:=O hu6.rest.1;have TM:=O hu6.rest.2
    have HEE:=O (show({t with w:=kh t.w (t.tab i).seen (t.tab i).op.part (cO (t.tab i).op).1,num:=AD (t.tab i).op t.num}:fB)={({t with w:=kh t.w (t.tab i).seen pt cn}:fB)with num:=xh (mD (t.tab i).op) t.num}from by rw[HPN.o,HCN.o];rfl);rw[HEE.o]at HE;have HEN:=O hen;clear hu6 ht6 k3 hen HNU HV6 HEE;generalize (t.tab i).ec=rr at *
    go_wp2_with (first|((with_reducible refine dr 99 ?_);refine aY rfl 30 (.tmp 98) rfl T (17+i*45+42) rfl (pC rr) _ HV4.o underlying30 rfl af ?_)|fail)
    refine HEN.o.mono ?_;rintro e u5⟨rfl,z1,z2⟩;have Ia:=O (z2.block Yw.o su);have Q0:=O z1;have HZ2:=O (TM.o.trans z2);clear z1 z2;go_wp2_with (first|((with_reducible refine cZ 30 ?_);refine aF rfl 30 (.tmp 6) (.tmp 101) rfl R #[.int .i64 rr.what,.string rr.head,.int .i64 rr.cert] rfl rfl _ bU Ia.o (bf _ rfl) rfl cC ?_)|fail)
    refine aW (jB bD _ _ R 30 #[.int .i64 rr.what,.string rr.head,.int .i64 rr.cert] (0,0) _ rfl (a_ _ R _ _ _ _ Ia.o) underlying30 rfl (bf _ rfl)) rfl ?_;rw[HE.o];exact Dd Q0.o HZ2.o YP.o YQ.o Ia.o _ rfl
 ·rw[bj hv];have q0:(0:Int)<=((t.tab i).fails:Int):=ab;have q3:((t.tab i).fails:Int)<=3:=ab;have hfz:=SV.o;obtain⟨B,g,sv,sb,p1, -⟩:=hfz.ex;have c23:u3.cell? ⟨T,17+i*45+23,none⟩=some (.int .i64 (t.tab i).fails):=p1.tab i HI.o 23 _ rfl;have f23:=p1.free (17+i*45+23)
  obtain⟨s1,s2⟩:=hfz.XC HI.o (j:=23) ag (.int .i64 ((t.tab i).fails+1:Nat)) (x:={t.tab i with fails:=(t.tab i).fails+1}) (fun _=>rfl) rfl id (fun h=>⟨h,rfl⟩);rw[show(((t.tab i).fails+1:Nat):Int)=((t.tab i).fails:Int)+1 from ab]at s1 s2;obtain⟨cT,JG⟩:=hfz.kind;have hRT:R≠T:=fun e=>by
   have:=VD.o;rw[e,JG]at this;cases this
  have Ia:=O (s2.keep VD.o (fun e=>hRT e));have HK5:=O (Te.o.tabs JG s2);have HS1:=O s1;clear hfz p1 s1 s2 JG SV VD Te;by_cases h3:((t.tab i).fails:Int)+1<=3
  ·as_aux_lemma =>
    have HE:=O (show iB t i=(t.put i {t.tab i with fails:=(t.tab i).fails+1,does:=1},rep 0,false)by unfold iB;rw[aq hv,az ab]);obtain⟨b1,b2⟩:=HS1.o.XC HI.o (j:=0) ag (.int .i64 1) (x:={t.tab i with fails:=(t.tab i).fails+1,does:=1}) (fun _=>by rw[gz];rfl) (by rw[gz]) (fun _=>by rw[gz];show(t.tab i).does≠0;rw[HD.o];decide) (fun h=>by simp at h);rw[abp,show 17+i*45+0=17+i*45 from rfl]at b1
    rw[show 17+i*45+0=17+i*45 from rfl]at b2;have Zb:=O b1;obtain⟨cT5,ak7⟩:=HS1.o.kind;have J6:=O (b2.keep Ia.o (fun e=>hRT e));have HK6:=O (HK5.o.tabs ak7 b2);obtain⟨B5,g5,sv5,sb5,p5, -⟩:=HS1.o.ex;have c0:=p5.tab i HI.o 0 _ rfl;rw[show 17+i*45+0=17+i*45 from rfl]at c0;have f0:=p5.free (17+i*45);clear hv b1 b2 ak7 p5 HS1 Ia HK5
    go_wp2_with (first|((with_reducible refine cZ 30 ?_);refine aF rfl 30 (.tmp 6) (.tmp 53) rfl R #[.int .i64 0,.string ⟨#[]⟩,.int .i64 0] rfl rfl _ bU J6.o (bf _ rfl) rfl cC ?_)|fail)
    refine aW (jB bD _ _ R 30 #[.int .i64 0,.string ⟨#[]⟩,.int .i64 0] (0,0) _ rfl (a_ _ R _ _ _ _ J6.o) underlying30 rfl (bf _ rfl)) rfl ?_;rw[HE.o];exact Dd Zb.o HK6.o YP.o YQ.o J6.o _ rfl
  ·as_aux_lemma =>
    have HE:=O (show iB t i=(ja (t.put i {t.tab i with fails:=(t.tab i).fails+1}) i (rep 6),rep 6,true)by unfold iB;rw[aq hv,aq ab]);have HEN:=O (E5 HS1.o HI.o (rep 6) (by rw[gz];show(t.tab i).does≠0;rw[HD.o];decide) HL.o);clear hv;go_wp2_with fail
    refine HEN.o.mono ?_;rintro e u5⟨rfl,z1,z2⟩;have J6:=O (z2.block Ia.o su);have Q0:=O z1;have HZ2:=O (HK5.o.trans z2);clear z1 z2;go_wp2_with (first|((with_reducible refine cZ 30 ?_);refine aF rfl 30 (.tmp 6) (.tmp 59) rfl R #[.int .i64 6,.string ⟨#[]⟩,.int .i64 0] rfl rfl _ bU J6.o (bf _ rfl) rfl cC ?_)|fail)
    refine aW (jB bD _ _ R 30 #[.int .i64 6,.string ⟨#[]⟩,.int .i64 0] (0,0) _ rfl (a_ _ R _ _ _ _ J6.o) underlying30 rfl (bf _ rfl)) rfl ?_;rw[HE.o];exact Dd Q0.o HZ2.o YP.o YQ.o J6.o _ rfl
end
section
variable {xw : Option (Nat × dD)} {a U U' : World} {T : Nat} {t : fB}
def sy(xw:Option (Nat×dD))(a U:World)(T:Nat)(r:fB×(kt×Bool×Nat))(e:Ending)(w':World):Prop :=
 e=.returned (.tuple #[.agg #[.int .i64 r.2.1.what,.string r.2.1.head,.int .i64 r.2.1.cert],.bool r.2.2.1,CN r.2.2.2])/\df xw a w' T r.1/\gW U w'
theorem step_end{r:kt×Bool×Nat}(h:df xw a W T t')(hk:gW U W)(hR:U.heap.size<=R)(ha:a.heap.size<=R)(hr:W.heap[R]?=some (.cells bU 30 (0,0)))(cs:bT)(he:e=.returned (.tuple #[.agg #[.int .i64 r.1.what,.string r.1.head,.int .i64 r.1.cert],.bool r.2.1,CN r.2.2])):sy xw a U T (t',r) e (W.setRow R cs) :=
 ⟨he,h.far ((ae (one R) _).setRow (fun _=>rfl) _) (fun n hn=>by have e':n=R:=hn;omega) (fun n hn=>by cases(show n=R from hn);exact⟨_,_,hr,JB⟩),hk.new ((ae (one R) _).setRow (fun _=>rfl) _) hR⟩
def abr(a:World)(x:dD)(op:iE):Prop:=∀(V:World) (B:Nat) (pv:Nat->cY) (o:jO) (hs:List ig),o.dW hs=op->cE a.heap.size V B pv x->Fr aS a V->gM V o hs ->
 aB 14 #[.pointer (some ⟨B,0,none⟩),.agg o.cells.toArray] V fun e w'=>e=.returned (.agg #[.int .i64 (iK x op).2.what,.string (iK x op).2.head,.int .i64 (iK x op).2.cert])/\dp a.heap.size V B pv (iK x op).1 w'
theorem df.tick(h:df xw a U T t)(k:Int):df xw a (U.setCell ⟨T,287,none⟩ (.int .i64 k)) T {t with steps:=k}/\Fr (one T) U (U.setCell ⟨T,287,none⟩ (.int .i64 k)):=by
 obtain⟨B,g,sv,sb,h1,h2,h3,h4⟩:=h.ex;have q:=h1.ES k;exact⟨kP (t':={t with steps:=k}) h1 h2 h3 h4 h.low h.fr q rfl (fun _ _ hp=>hp) (fun j hj=>⟨fun hd=>Or.inl ⟨rfl,rfl,rfl,hd⟩,(h4 j hj).2⟩),q.2⟩
theorem df.cells(h:df xw a U T t)(hi:i<6):U.cell? ⟨T,17+i*45,none⟩=some (.int .i64 (t.tab i).does)/\U.cell? ⟨T,287,none⟩=some (.int .i64 t.steps)/\(∀k,U.frozen? ⟨T,k,none⟩=false)/\U.rangeAt T 1 (lu t.num)/\(∀o n,o+n<=289->U.there T o n):=by
 obtain⟨B,g,sv,sb,h1,h2,h3,h4⟩:=h.ex;exact⟨h1.tab i hi 0 _ rfl,h1.steps,fun k=>h1.free k,h1.num,fun o n hn=>h1.there hn⟩
theorem JH{b o:Nat}{p r:aZ}(h:U.rangeAt b o (p++(q++r)))(hl:q'.length=q.length)(ht:U.there b (o+p.length) q'.length):(U.setCells b (o+p.length) q').rangeAt b o (p++(q'++r)):=fun j v hj=>by
 by_cases h1:j<p.length
 ·rw[List.getElem?_append_left h1]at hj;rw[World.cell?_setCells_out b q' _ U ⟨b,o+j,none⟩ (fun _ _=>Or.inl (show o+j<o+p.length from ab))];exact h j v (by rw[List.getElem?_append_left h1];exact hj)
 ·by_cases h2:j<p.length+q'.length
  ·rw[List.getElem?_append_right ab,List.getElem?_append_left ab]at hj;have:=World.rangeAt_setCells_same U b (o+p.length) q' ht (j-p.length) v hj
   rwa [show o+p.length+(j-p.length)=o+j from ab]at this
  ·rw[List.getElem?_append_right ab,List.getElem?_append_right ab]at hj;rw[World.cell?_setCells_out b q' _ U ⟨b,o+j,none⟩ (fun _ _=>Or.inr (show o+p.length+q'.length<=o+j from ab))];exact h j v (by rw[List.getElem?_append_right ab,List.getElem?_append_right ab, <-hl];exact hj)
theorem gD.XL(h:gD U T B g sv t)(hn:n<6){p r:aZ}{w:rC}(hx:nj (t.tab n) (g n)=p++(q++r))(hl:q'.length=q.length)(UE:nj x w=p++(q'++r)) :
  gD (U.setCells T (17+n*45+p.length) q') T B (fun i=>if i=n then w else g i) sv (t.put n x)/\Fr (one T) U (U.setCells T (17+n*45+p.length) q'):=by
 have hlen:p.length+q'.length<=45:=by
  have:=qG x w;rw[UE]at this;simp at this;omega
 refine⟨⟨lY T _ _ q' _ _ h.eN,eZ h.main (Or.inl ab),cg h.num T _ q' (Or.inr (Or.inl (by rw[nK];omega))),fun m hm=>?_,eZ h.steps (Or.inr ab),eZ h.st (Or.inr ab)⟩,mQ T q' _ _ (ae _ _)⟩;by_cases e:m=n
 ·subst e;show World.rangeAt _ T (17+m*45) (nj (if m=m then x else t.tab m) (if m=m then w else g m));rw[az rfl,az rfl,UE];have:=h.tab m hm;rw[hx]at this;exact JH this hl (h.there ab)
 ·show World.rangeAt _ T (17+m*45) (nj (if m=n then x else t.tab m) (if m=n then w else g m));rw[aq e,aq e];exact cg (h.tab m hm) T _ q' (by
   right;rw[qG];rcases eS m n with q|q
   ·left;omega
   ·right;omega)
theorem E'{P:Program}{ops:Array Oper}{a:Act}{w:World}{K:Act->World->Prop}{Q:Exit->Act->World->Prop}{E:Prop}{op:Oper}(zm:op.guard=none)(ty:TypeId)(x y:Operand)(ho:op.op=.store ty x y)
  (b o:Nat)(v:Value)(hx:a.eval x=.pointer (some ⟨b,o,none⟩))(hy:a.eval y=v)(hv:v.cells= #[v])
  (ht:w.there b o 1)(hi:(P.info? ty).map (·.size)=some 1)(h1:v.oneCell'=true)
  (h:K (a.put op.dst undef) (w.setCell ⟨b,o,none⟩ v)):if Region.wanted op (yielded ops a.tmps)=true then Oper.wp P op a w K Q else E:=by
 have hw:Region.wanted op (yielded ops a.tmps)=true:=by simp[Region.wanted,zm]
 rw[az hw];have hr:(storeVar ty ⟨b,o,none⟩ v).run P w=.ok () (w.setCells b o [v]):=by
  have e:storeVar ty ⟨b,o,none⟩ v=storeVar ty ⟨b,o,none⟩ (.agg #[v]):=by
   unfold storeVar;rw[hv];rfl
  rw[e];exact run_storeVar_mid w b o ty #[v] ht hi (by simp[h1])
 unfold Oper.wp execOp;simp only[ho,hx,hy,Instr.storeAt,Instr.sureAddr,Sem.run_bind,Sem.run_pure,Result.andThen_ok,hr];exact h
theorem XM(r:kt):(pC r).toArray.all (·.oneCell')=true :=
 b_ (by
  intro u hu;unfold pC at hu;simp only[bC,cA,dY]at hu;rcases hu with rfl|rfl|rfl<;>rfl)
theorem XN(f:Nat->Nat->Int):(lu f).toArray.all (·.oneCell')=true :=
 b_ (by
  intro u hu;unfold lu at hu;simp only[bC,cA,dY]at hu;rcases hu with rfl|rfl|rfl|rfl|rfl|rfl|rfl|rfl|rfl|rfl|rfl|rfl|rfl|rfl|rfl|rfl<;>rfl)
theorem df.asm{c:bT}(hb:gD W T B g sv t)(hw:xQ a.heap.size U (oL xw B sb t))(he:oA a.heap.size U sv t.cU)(ho:∀n,n<6->(t.tab n).does≠0->jZ a.heap.size U ((g n).o,(g n).hs) (t.tab n).op)(hp:∀n,n<6->(t.tab n).does=2\/(t.tab n).does=3->(g n).sp=.pointer (some ⟨sb n,0,none⟩))(hc:U.heap[T]?=some (.cells c 75 (0,0)))(hF:Fr (one T) U W)(lD:a.heap.size<=T)(cP:Fr aS a U):df xw a W T t :=
 ⟨⟨B,g,sv,sb,hb,hw.one lD hc rJ.1 rJ.2 ag hF,he.one hc ag ag hF,fun n hn=>⟨fun hd=>(ho n hn hd).one hc ag hF,hp n hn⟩⟩,lD,cP.step hF fun k hk e=>by
  have:k=T:=e;omega⟩
theorem Tt{B C:Nat}{g:Nat->rC}{sv:Value}{sb:Nat->Nat}{i:Nat}{qv:Nat->cY}(hi:i<6)(h1:gD U T B g sv t)(h2:xQ a.heap.size U (oL xw B sb t))(h3:oA a.heap.size U sv t.cU)
  (h4:∀n,n<6->((t.tab n).does≠0->jZ a.heap.size U ((g n).o,(g n).hs) (t.tab n).op)/\((t.tab n).does=2\/(t.tab n).does=3->(g n).sp=.pointer (some ⟨sb n,0,none⟩)))(hd:(t.tab i).does≠0)(lD:a.heap.size<=T)(cP:Fr aS a U)
  (hF:Fr aS U U')(hc:cE a.heap.size U' C qv t.w)(hn:∀j,lI C qv j->U.heap.size<=j) :
  df xw a (((U'.setCell ⟨T,17+i*45+25,none⟩ (.pointer (some ⟨C,0,none⟩))).setCells T (17+i*45+26) (lu t.num)).setCell ⟨T,17+i*45,none⟩ (.int .i64 2)) T (t.put i {t.tab i with seen:=t.w,num:=t.num,does:=2})/\Fr (one T) U' (((U'.setCell ⟨T,17+i*45+25,none⟩ (.pointer (some ⟨C,0,none⟩))).setCells T (17+i*45+26) (lu t.num)).setCell ⟨T,17+i*45,none⟩ (.int .i64 2))/\((U'.setCell ⟨T,17+i*45+25,none⟩ (.pointer (some ⟨C,0,none⟩))).setCells T (17+i*45+26) (lu t.num)).cell? ⟨T,17+i*45,none⟩=some (.int .i64 (t.tab i).does)/\(∀k,((U'.setCell ⟨T,17+i*45+25,none⟩ (.pointer (some ⟨C,0,none⟩))).setCells T (17+i*45+26) (lu t.num)).frozen? ⟨T,k,none⟩=false)/\(U'.setCell ⟨T,17+i*45+25,none⟩ (.pointer (some ⟨C,0,none⟩))).there T (17+i*45+26) 16:=by
 have b1:=h1.fr hF id;have w1:xQ a.heap.size U' (oL xw B (fun j=>if j=i then C else sb j) (t.put i {t.tab i with seen:=t.w,num:=t.num,does:=2})):=by
  refine(h2.add hF (i:=i) hc hn).sub fun j p hp=>?_;by_cases e:j=i
  ·subst e;rw[az rfl];unfold oL at hp;rw[aq ab,aq ab]at hp;simpa[fB.put,hi]using hp
  ·rw[aq e];unfold oL at hp ⊢;by_cases e6:j=6
   ·rw[az e6]at hp ⊢;exact hp
   ·rw[aq e6]at hp ⊢;simpa[fB.put,e]using hp
 have q1:=b1.Db hi (j:=25) ag (.pointer (some ⟨C,0,none⟩)) (x:=t.tab i) (w:={g i with sp:=.pointer (some ⟨C,0,none⟩)}) rfl;have q2:=q1.1.XL (n:=i) hi (x:={t.tab i with num:=t.num}) (w:={g i with sp:=.pointer (some ⟨C,0,none⟩)})
  (p:=.int .i64 (t.tab i).does :: ((g i).o.cells++[.int .i64 (t.tab i).fails,.int .i64 (t.tab i).iG,.pointer (some ⟨C,0,none⟩)])) (q:=lu (t.tab i).num) (q':=lu t.num) (r:=pC (t.tab i).ec)
  (by simp only[gz,eo];rfl) rfl rfl
 have q3:=q2.1.Db hi (j:=0) ag (.int .i64 2) (x:={t.tab i with num:=t.num,does:=2}) (w:={g i with sp:=.pointer (some ⟨C,0,none⟩)}) (by simp only[gz,eo];rfl);have Fx:=(q1.2.trans q2.2).trans q3.2;obtain⟨c,JG,_⟩:=b1.eN;refine⟨?_,Fx,?_,q2.1.free,q1.1.there ab⟩
 ·refine df.asm (q3.1.same (t':=t.put i {t.tab i with seen:=t.w,num:=t.num,does:=2}) rfl (fun n hn=>?_) rfl) w1 (h3.kept (gj hF)) (fun n hn tZ=>?_) (fun n hn tZ=>?_) JG Fx lD (cP.trans hF)
  ·by_cases e:n=i
   ·subst e;simp only[gz,eo];rfl
   ·simp[fB.put,e]
  ·by_cases e:n=i
   ·subst e;simp only[gz,eo];exact((h4 n hn).1 hd).kept (gj hF)
   ·simp only[fB.put,aq e]at tZ ⊢;exact((h4 n hn).1 tZ).kept (gj hF)
  ·by_cases e:n=i
   ·subst e;simp
   ·simp only[fB.put,aq e]at tZ ⊢;exact(h4 n hn).2 tZ
 ·exact q2.1.tab i hi 0 (.int .i64 (t.tab i).does) (by simp only[gz,eo];rfl)
theorem Tu{x':dD}(r:kt)(hi:i<6)(h1:gD U T B g sv t)(h2:xQ a.heap.size U (oL xw B sb (t.put i {t.tab i with seen:=x'})))(h3:oA a.heap.size U sv t.cU)(h4:∀n,n<6->(t.tab n).does≠0->jZ a.heap.size U ((g n).o,(g n).hs) (t.tab n).op)(h5:∀n,n<6->(t.tab n).does=2\/(t.tab n).does=3->(g n).sp=.pointer (some ⟨sb n,0,none⟩))(hd:(t.tab i).does=2)(lD:a.heap.size<=T)(cP:Fr aS a U) :
  df xw a ((U.setCells T (17+i*45+42) (pC r)).setCell ⟨T,17+i*45,none⟩ (.int .i64 3)) T (t.put i {t.tab i with ec:=r,seen:=x',does:=3})/\Fr (one T) U ((U.setCells T (17+i*45+42) (pC r)).setCell ⟨T,17+i*45,none⟩ (.int .i64 3))/\(U.setCells T (17+i*45+42) (pC r)).cell? ⟨T,17+i*45,none⟩=some (.int .i64 (t.tab i).does)/\(∀k,(U.setCells T (17+i*45+42) (pC r)).frozen? ⟨T,k,none⟩=false)/\U.there T (17+i*45+42) 3:=by
 have q2:=h1.XL (n:=i) hi (x:={t.tab i with ec:=r}) (w:=g i)
  (p:=.int .i64 (t.tab i).does :: ((g i).o.cells++(.int .i64 (t.tab i).fails :: .int .i64 (t.tab i).iG :: (g i).sp :: lu (t.tab i).num))) (q:=pC (t.tab i).ec) (q':=pC r) (r:=[])
  rfl rfl rfl
 have q3:=q2.1.Db hi (j:=0) ag (.int .i64 3) (x:={t.tab i with ec:=r,does:=3}) (w:=g i) (by simp only[gz,eo];rfl);have Fx:=q2.2.trans q3.2;obtain⟨c,JG,_⟩:=h1.eN;refine⟨?_,Fx,?_,q2.1.free,h1.there ab⟩
 ·refine df.asm (q3.1.same (t':=t.put i {t.tab i with ec:=r,seen:=x',does:=3}) rfl (fun n hn=>?_) rfl) (h2.sub (O2 rfl fun n hn tZ=>?_)) h3 (fun n hn tZ=>?_) (fun n hn tZ=>?_) JG Fx lD cP
  ·by_cases e:n=i
   ·subst e;simp only[gz,eo];rfl
   ·simp[fB.put,e]
  ·by_cases e:n=i
   ·subst e;simp[fB.put,hd]
   ·simp only[fB.put,aq e]at tZ ⊢;exact⟨tZ,trivial⟩
  ·by_cases e:n=i
   ·subst e;simp only[gz,eo];exact h4 n hn ab
   ·simp only[fB.put,aq e]at tZ ⊢;exact h4 n hn tZ
  ·by_cases e:n=i
   ·subst e;simp only[eo];exact h5 n hn (Or.inl hd)
   ·simp only[fB.put,aq e]at tZ ⊢;exact h5 n hn tZ
 ·exact q2.1.tab i hi 0 (.int .i64 (t.tab i).does) (by simp only[gz,eo];rfl)
end
