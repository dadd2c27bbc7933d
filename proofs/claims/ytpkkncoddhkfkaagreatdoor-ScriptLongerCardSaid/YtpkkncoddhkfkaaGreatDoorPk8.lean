/- TbCom1, TbNew, TbCom2, TbCom, TbStep1. -/
import Derived.Test.YtpkkncoddhkfkaaGreatDoorPk7
import Derived.Great.Walk
set_option maxRecDepth 100000
set_option maxHeartbeats 16000000
set_option linter.unusedSimpArgs false
namespace Go.Proofs.YtpkkncoddhkfkaaGreatDoor
open Go.Proofs.Tryz
open Go.RowKit
variable {o:df} {d r:List (Nat×Nat)} {c:Nat×Nat} {p i base A B n bs R:Nat} {f:Nat->Nat->Int} {S:World->Prop} {v sv va:Value} {e:Ending} {g:Nat->eU} {t':cX} {x:gM} {l:List Int} {W V:World} {q q':List Value} {sb:Nat->Nat}
theorem nG(o:df):(dw o).Pairwise (fun x y=>x.2<y.2):=by
 unfold dw;cases h0:(bd o).1.testBit 0<;>cases h1:(bd o).1.testBit 1<;>cases h2:(bd o).1.testBit 2<;>cases h3:(bd o).1.testBit 3<;>simp[h0,h1,h2,h3]
theorem nH(o:df):(dw o).length<=4:=List.length_filterMap_le _ [0,1,2,3]
theorem tM(h:dw o=d++c :: r):c∉d:=fun hc=>by
 have hp:=nG o;rw[h,List.pairwise_append]at hp;have:=hp.2.2 c hc c (cq ..);omega
theorem mi(h:dw o=d++c :: r):c.1<4/\c.2<4:=by
 have hm:(c.1,c.2)∈dw o:=by rw[h];simp
 obtain⟨h1,h2,h3⟩:=sV.1 hm;refine⟨?_,h1⟩;rw[h3];split
 ·decide
 ·cases hr:o.right
  ·rw[kV hr]at h2;simp at h2
  ·obtain⟨p0,p4⟩:=eb hr;omega
theorem nI(h:dw o=d++c :: r):d.length<1000:=by
 have:=nH o;rw[h]at this;simp at this;omega
def gw(d:List (Nat×Nat))(f:Nat->Nat->Int):Nat->Nat->Int:=fun p i=>if(p,i)∈d then f p i+1 else f p i
theorem q8(f:Nat->Nat->Int):gw [] f=f:=by funext p i;simp[gw]
theorem pc(hc:c∉d)(f:Nat->Nat->Int):gw (d++[c]) f=fun p i=>if(p,i)=c then f p i+1 else gw d f p i:=by
 funext p i
 unfold gw;by_cases e:(p,i)=c
 ·subst e;simp
 ·by_cases m:(p,i)∈d<;>simp[e,m]
theorem tN(f:Nat->Nat->Int)(hp:p<4)(hi:i<4)(v:Int):(dh f).set (p*4+i) (.int .i64 v)=dh (fun q j=>if(q,j)=(p,i)then v else f q j):=by
 rcases(show p=0\/p=1\/p=2\/p=3 from ab)with rfl|rfl|rfl|rfl<;>rcases(show i=0\/i=1\/i=2\/i=3 from ab)with rfl|rfl|rfl|rfl<;>rfl
def iy(d:List (Nat×Nat))(f:Nat->Nat->Int):List Int:=d.map fun c=>f c.1 c.2
theorem q9(d:List (Nat×Nat))(c:Nat×Nat)(f:Nat->Nat->Int):iy (d++[c]) f=iy d f++[f c.1 c.2]:=by unfold iy;simp
theorem gy(d:List (Nat×Nat))(f:Nat->Nat->Int):(iy d f).length=d.length:=by unfold iy;simp
section
variable {xw : Option (Nat × bu)} {a U U' : World} {T : Nat} {t : cX}
theorem aI.tO(h:aI xw a U T t)(hp:p<4)(hi:i<4):U.cell? ⟨T,1+p*4+i,none⟩=some (.int .i64 (t.num p i)):=by
 obtain⟨_,_,_,_,g1,_⟩:=h.ex;rw[Nat.add_assoc];exact g1.num _ _ (pW t.num hp hi)
theorem aI.lt(h:aI xw a U T t):T<U.heap.size:=by
 obtain⟨_,_,_,_,g1,_⟩:=h.ex;exact g1.lt
theorem aI.kind(h:aI xw a U T t):∃c,U.heap[T]?=some (.cells c 72 (0,0)):=by
 obtain⟨_,_,_,_,g1,_⟩:=h.ex;obtain⟨c,hc,_⟩:=g1.cR;exact⟨c,hc⟩
theorem aI.bump(h:aI xw a U T t)(hp:p<4)(hi:i<4)(v:Int):aI xw a (U.setCell ⟨T,1+p*4+i,none⟩ (.int .i64 v)) T {t with num:=fun q j=>if(q,j)=(p,i)then v else t.num q j}:=by
 obtain⟨B,g,sv,sb,h1,h2,h3,h4⟩:=h.ex;have q:=h1.yT hp hi v (tN t.num hp hi v);rw[<-Nat.add_assoc]at q;exact aI.put (t':={t with num:=fun q j=>if(q,j)=(p,i)then v else t.num q j}) h1 h2 h3 h4 h.low h.fr q rfl (fun _ _ hp=>hp) (fun j hj=>⟨fun hd=>Or.inl ⟨rfl,rfl,rfl,hd⟩,(h4 j hj).2⟩)
structure iz (xw:Option (Nat×bu)) (a:World) (T:Nat) (t:cX) (base A:Nat) (f:Nat->Nat->Int) (S:World->Prop) (d:List (Nat×Nat)) (V:World):Prop where
 tabs:aI xw a V T t
 rows:∃v,V.heap[A]?=some (.cells #[v] 113 (0,0))/\OwnRows base 3 1 V v ((iy d f).map fY)
 low:a.heap.size<=base/\base<=V.heap.size/\a.heap.size<=A
 rest:S V
def hO(base A:Nat)(S:World->Prop):Prop:=∀V V' Z,S V->Fr Z V V'->(∀n,Z n->n=A\/(base<=n/\∃c,V.heap[n]?=some (.cells c 3 (0,0))))->S V'
theorem iz.dv(hS:hO base A S)(h:iz xw a T t base A f S d U)(hf:Fr aU U U'):iz xw a T t base A f S d U':=by
 obtain⟨v,h1,h2⟩:=h.rows;exact⟨h.tabs.dv hf,⟨v,hf.keep h1 (fun h=>h),h2.fr hf (fun _ _ h=>h)⟩,⟨h.low.1,au h.low.2.1 hf.size,h.low.2.2⟩,hS _ _ _ h.rest hf (fun _ h=>absurd h (fun h=>h))⟩
theorem iz.add(hS:hO base A S)(h:iz xw a T t base A f S d U)(h1:U.heap[A]?=some (.cells #[v] 113 (0,0)))(h2:OwnRows base 3 1 U v ((iy d f).map fY))(hp:l_ base U A v (iy d f++[f c.1 c.2]) e U') :
  e=.returned (.tuple #[])/\iz xw a T t base A f S (d++[c]) U'/\∀(n:Nat) (k:Array Value),U.heap[n]?=some (.cells k 35 (0,0))->U'.heap[n]?=some (.cells k 35 (0,0)):=by
 obtain⟨he,v',p1,p2,p3⟩:=hp;have hz:∀n,(n=A\/own v n)->n=A\/(base<=n/\∃c,U.heap[n]?=some (.cells c 3 (0,0))):=fun n hn=>by
  rcases hn with hn|hn
  ·exact Or.inl hn
  ·exact Or.inr ⟨h2.block n hn,h2.jR hn⟩
 refine⟨he,⟨h.tabs.zv p3 (fun n hn=>?_) (fun n hn=>?_),⟨v',p1,by rw[q9];exact p2⟩,⟨h.low.1,au h.low.2.1 p3.size,h.low.2.2⟩,hS _ _ _ h.rest p3 hz⟩,fun n k hn=>p3.keep hn (fun hh=>?_)⟩
 ·rcases hz n hn with rfl|⟨q,_⟩
  ·exact h.low.2.2
  ·exact au h.low.1 q
 ·rcases hz n hn with rfl|⟨_,c,q⟩
  ·exact⟨_,_,h1,tI⟩
  ·exact⟨_,_,q,wy⟩
 ·rcases hz n hh with rfl|⟨_,c,q⟩
  ·rw[h1]at hn;cases hn
  ·rw[q]at hn;cases hn
theorem tP(hS:hO base A S):ey (iz xw a T t base A t.num S) o T 43 #[.pointer (some ⟨A,0,none⟩)]:=by
 intro d c r hd V hV;obtain⟨v,h1,h2⟩:=hV.rows;obtain⟨c1,c2⟩:=mi hd;refine(zw h1 (hV.tabs.tO c1 c2) h2 hV.low.2.1 (by rw[gy];exact nI hd)).mono ?_;intro e w' hp;exact hV.add hS h1 h2 hp
theorem tQ{W0:Nat}(hS:hO base A S)(hW:∀V,S V->∃cs,V.heap[W0]?=some (.cells cs 72 (0,0))/\∀q i,q<4->i<4->cs[1+q*4+i]?=some (.int .i64 (f q i))) :
  ey (iz xw a T t base A f S) o W0 44 #[.pointer (some ⟨A,0,none⟩)]:=by
 intro d c r hd V hV;obtain⟨v,h1,h2⟩:=hV.rows;obtain⟨c1,c2⟩:=mi hd;obtain⟨cs,w1,w2⟩:=hW V hV.rest;have hc:V.cell? ⟨W0,1+c.1*4+c.2,none⟩=some (.int .i64 (f c.1 c.2)):=by
  simp only[World.cell?,w1];exact w2 _ _ c1 c2
 refine(zy h1 hc h2 hV.low.2.1 (by rw[gy];exact nI hd)).mono ?_;intro e w' hp;exact hV.add hS h1 h2 hp
structure tR (xw:Option (Nat×bu)) (a:World) (T:Nat) (t:cX) (S:World->Prop) (d:List (Nat×Nat)) (V:World):Prop where
 tabs:aI xw a V T {t with num:=gw d t.num}
 rest:S V
def pd(T:Nat)(S:World->Prop):Prop:=∀V V' c,S V->V.heap[T]?=some (.cells c 72 (0,0))->Fr (one T) V V'->S V'
theorem tR.dv(hS:pd T S)(h:tR xw a T t S d U)(hf:Fr aU U U'):tR xw a T t S d U':=by
 obtain⟨c,hc⟩:=h.tabs.kind;exact⟨h.tabs.dv hf,hS _ _ _ h.rest hc (hf.mono fun _ _ h=>absurd h (fun h=>h))⟩
theorem wE(hS:pd T S)(hn:∀p i,0<=t.num p i/\t.num p i<1000000):ey (tR xw a T t S) o T 48 #[]:=by
 intro d c r hd V hV;obtain⟨c1,c2⟩:=mi hd;have CA:=tM hd;have hv:gw d t.num c.1 c.2=t.num c.1 c.2:=aj CA;have hc:=hV.tabs.tO c1 c2;rw[show({t with num:=gw d t.num}:cX).num c.1 c.2=t.num c.1 c.2 from hv]at hc;obtain⟨k,hk⟩:=hV.tabs.kind;refine(zu V T (1+c.1*4+c.2) hc (by simp[World.frozen?,hk]) (hn _ _).1 (hn _ _).2).mono ?_;rintro e w'⟨rfl,rfl⟩
 have hF:Fr (one T) V (V.setCell ⟨T,1+c.1*4+c.2,none⟩ (.int .i64 (t.num c.1 c.2+1))):=(Fr.refl (one T) V).setCell (p:=⟨T,1+c.1*4+c.2,none⟩) (fun _=>rfl) _;refine⟨rfl,⟨?_,hS _ _ _ hV.rest hk hF⟩,fun n q hq=>hF.keep hq (fun e=>?_)⟩
 ·have:=hV.tabs.bump c1 c2 (t.num c.1 c.2+1);rw[pc CA];have ee:(fun q j=>if(q,j)=(c.1,c.2)then t.num c.1 c.2+1 else gw d t.num q j)=(fun p i=>if(p,i)=c then t.num p i+1 else gw d t.num p i):=by
   funext q j
   by_cases e:(q,j)=c
   ·have e':(q,j)=(c.1,c.2):=e;rw[aq e,aq e'];have e1:q=c.1:=by rw[<-e]
    have e2:j=c.2:=by rw[<-e]
    rw[e1,e2]
   ·have e':¬(q,j)=(c.1,c.2):=e;rw[aj e,aj e']
  exact ee▸this
 ·cases(show n=T from e);rw[hk]at hq;cases hq
theorem bL.same(h:bL U T B g sv t)(hn:t'.num=t.num)(ht:∀n,n<6->dS (t'.tab n) (g n)=dS (t.tab n) (g n))(hs:t'.steps=t.steps):bL U T B g sv t' :=
 ⟨h.cR,h.main,by rw[hn];exact h.num,fun n hl=>by rw[ht n hl];exact h.tab n hl,by rw[hs];exact h.steps,h.st⟩
theorem aI.main{B:Nat}{g:Nat->eU}{sv:Value}{sb:Nat->Nat}{f:FuncId}{args:Array Value}{R:Ending->Prop}{x':bu}(h1:bL U T B g sv t)(h2:gU a.heap.size U (ez xw B sb t))(h3:eQ a.heap.size U sv t.cI)
  (h4:∀n,n<6->((t.tab n).does≠0->bW a.heap.size U ((g n).o,(g n).hs) (t.tab n).op)/\((t.tab n).does=2\/(t.tab n).does=3->(g n).sp=.pointer (some ⟨sb n,0,none⟩)))(g_:a.heap.size<=T)(dU:Fr aU a U)
  (hc:∀pv,aQ a.heap.size U B pv t.w->Calls prog f args U fun e w'=>R e/\aL a.heap.size U B pv x' w') :
  Calls prog f args U fun e w'=>R e/\aI xw a w' T {t with w:=x'}/\bL w' T B g sv t/\Kept U w':=by
 refine(gU.act h2 dU (ar _) (i:=6) (B:=B) (x:=t.w) rfl hc).mono ?_;rintro e w'⟨r1,r2,r3,r4⟩;refine⟨r1,⟨⟨B,g,sv,sb,(r4.cR h1).same rfl (fun _ _=>rfl) rfl,r2.sub (fun i p hp=>?_),h3.kept r4,fun n hn=>⟨fun hd=>((h4 n hn).1 hd).kept r4,(h4 n hn).2⟩⟩,g_,r3⟩,r4.cR h1,r4⟩;by_cases e:i=6
 ·subst e;exact hp
 ·rw[aj e];unfold ez at hp ⊢;rw[aj e]at hp ⊢;exact hp
theorem aI.seen{B:Nat}{g:Nat->eU}{sv:Value}{sb:Nat->Nat}{f:FuncId}{args:Array Value}{R:Ending->Prop}{x':bu}{i:Nat}(hi:i<6)(hd:(t.tab i).does=2\/(t.tab i).does=3)(h1:bL U T B g sv t)(h2:gU a.heap.size U (ez xw B sb t))(h3:eQ a.heap.size U sv t.cI)
  (h4:∀n,n<6->((t.tab n).does≠0->bW a.heap.size U ((g n).o,(g n).hs) (t.tab n).op)/\((t.tab n).does=2\/(t.tab n).does=3->(g n).sp=.pointer (some ⟨sb n,0,none⟩)))(_hlow:a.heap.size<=T)(dU:Fr aU a U)
  (hc:∀pv,aQ a.heap.size U (sb i) pv (t.tab i).seen->Calls prog f args U fun e w'=>R e/\aL a.heap.size U (sb i) pv x' w') :
  Calls prog f args U fun e w'=>R e/\(bL w' T B g sv t/\gU a.heap.size w' (ez xw B sb (t.put i {t.tab i with seen:=x'}))/\eQ a.heap.size w' sv t.cI/\(∀n,n<6->((t.tab n).does≠0->bW a.heap.size w' ((g n).o,(g n).hs) (t.tab n).op))/\Fr aU a w')/\Kept U w':=by
 have hw:ez xw B sb t i=some (sb i,(t.tab i).seen):=by
  unfold ez;rw[aj ab,aj ab,aq ⟨hi,hd⟩]
 refine(gU.act h2 dU (ar _) hw hc).mono ?_;rintro e w'⟨r1,r2,r3,r4⟩;refine⟨r1,⟨r4.cR h1,r2.sub (fun j p hp=>?_),h3.kept r4,fun n hn hd=>((h4 n hn).1 hd).kept r4,r3⟩,r4⟩;by_cases e:j=i
 ·subst e;rw[aq rfl];unfold ez at hp;rw[aj ab,aj ab]at hp;split at hp
  ·rw[<-hp];simp[cX.put]
  ·cases hp
 ·rw[aj e];unfold ez at hp ⊢;by_cases e6:j=6
  ·rw[aq e6]at hp ⊢;exact hp
  ·rw[aj e6]at hp ⊢;simpa[cX.put,e]using hp
theorem aI.tS(h:aI xw a U T t)(hi:i<6){j:Nat}(hj:j<45)(v:Value)(hx:∀g,(dS (t.tab i) g).set j v=dS x g)(ho:x.op=(t.tab i).op)(h0:x.does≠0->(t.tab i).does≠0)(hs:x.does=2\/x.does=3->((t.tab i).does=2\/(t.tab i).does=3)/\x.seen=(t.tab i).seen) :
  aI xw a (U.setCell ⟨T,17+i*45+j,none⟩ v) T (t.put i x)/\Fr (one T) U (U.setCell ⟨T,17+i*45+j,none⟩ v):=by
 obtain⟨B,g,sv,sb,h1,h2,h3,h4⟩:=h.ex;have q:=h1.jC hi hj v (hx (g i));refine⟨aI.put (t':=t.put i x) h1 h2 h3 h4 h.low h.fr q rfl (oD rfl fun n hn hd=>?_) (fun n hn=>?_),q.2⟩
 ·by_cases e:n=i
  ·subst e;simp only[cX.put,bD]at hd ⊢;exact hs hd
  ·simp only[cX.put,aj e]at hd ⊢;exact⟨hd,trivial⟩
 ·by_cases e:n=i
  ·subst e;simp only[cX.put,bD];exact⟨fun hd=>Or.inl ⟨trivial,trivial,ho,h0 hd⟩,fun hd=>(h4 n hn).2 (hs hd).1⟩
  ·simp only[cX.put,aj e];exact⟨fun hd=>Or.inl ⟨trivial,trivial,trivial,hd⟩,(h4 n hn).2⟩
theorem aI.at(h:aI xw a U T t)(hi:i<6):∃v:eU,U.rangeAt T (17+i*45) (dS (t.tab i) v)/\U.rangeAt T (17+i*45+1) v.o.cells/\U.rangeAt T (17+i*45+26) (dh (t.tab i).num)/\U.rangeAt T (17+i*45+42) (eL (t.tab i).cP)/\((t.tab i).does≠0->bW a.heap.size U (v.o,v.hs) (t.tab i).op):=by
 obtain⟨B,g,sv,sb,h1,h2,h3,h4⟩:=h.ex;have hr:=h1.tab i hi;refine⟨g i,hr,ep (p:=[.int .i64 (t.tab i).does]) (q:=(g i).o.cells) hr,?_,?_,(h4 i hi).1⟩
 ·have:=ep (p:=.int .i64 (t.tab i).does :: ((g i).o.cells++[.int .i64 (t.tab i).fails,.int .i64 (t.tab i).dZ,(g i).sp])) (q:=dh (t.tab i).num) (r:=eL (t.tab i).cP) (U:=U) (b:=T) (o:=17+i*45) hr;exact this
 ·have:=ep (p:=.int .i64 (t.tab i).does :: ((g i).o.cells++(.int .i64 (t.tab i).fails :: .int .i64 (t.tab i).dZ :: (g i).sp :: dh (t.tab i).num))) (q:=eL (t.tab i).cP) (r:=[]) (U:=U) (b:=T) (o:=17+i*45) hr;exact this
theorem xN(h:cz 1 U v (l.map fY))(hl:l≠ []):∃b o c,v=.slice (some ⟨b,o,none⟩) l.length c/\∀j,j<l.length->U.cell? ⟨b,o+j,none⟩=some (.int .i64 (l.getD j 0)):=by
 rcases h.2 with ⟨a',c',e1,e2,e3⟩|⟨bk,o',c,hf,g1,g2,g3,g4⟩
 ·exact absurd (by simpa using e2) hl
 ·rw[ag]at hf;refine⟨bk,o',c,hf,fun j hj=>?_⟩;have:=g4 j (fY (l.getD j 0)) (by simp[List.getElem?_eq_getElem hj,List.getD_eq_getElem?_getD]) 0 _ rfl;simpa using this
theorem zB{v':Value}{l':List Int}(h:cz 1 U v (l.map fY))(h':cz 1 U v' (l'.map fY))(hl:l.length=l'.length)(hs:l.length<1000) :
  Calls prog 45 #[v,v'] U fun e w'=>e=.returned (.bool (decide (l=l')))/\Fr aU U w':=by
 by_cases h0:l=[]
 ·subst h0;have Dy:l'=[]:=List.length_eq_zero_iff.1 hl.symm;subst Dy;obtain⟨a1,c1,e1⟩:=h.form;obtain⟨a2,c2,e2⟩:=h'.form;rw[e1,e2];refine(Tryz.slices_Equal_int_empty a1 a2 c1 0 c2 U ae).mono ?_;rintro e w'⟨rfl,rfl⟩;exact⟨rfl,Fr.refl _ _⟩
 ·have Dy:l'≠ []:=fun e=>h0 (List.length_eq_zero_iff.1 (by rw[hl,e];rfl));obtain⟨b1,o1,c1,e1,f1⟩:=xN h h0;obtain⟨b2,o2,c2,e2,f2⟩:=xN h' Dy;rw[e1,e2];refine(Tryz.slices_Equal_int b1 o1 l.length c1 b2 o2 l'.length c2 l l' U (ar _) (ar _) ab ab f1 f2).mono ?_;rintro e w'⟨rfl,q,rfl⟩;refine⟨?_,(Fr.refl aU U).drewN q⟩;rw[List.take_length,List.take_length]
  congr 2
  by_cases e:l=l'<;>simp[e]
end
theorem wpList_buildTo{P:Program}{ops:Array Oper}{rest:List Oper}{o:Oper}{a:Act}{w:World}{Q:Exit->Act->World->Prop}(hg:o.guard=none)(t:TypeId)(parts:Array (Nat×Operand))(ho:o.op=.build t parts)(dst:Option Tmp)(oG:o.dst=dst)
  (vs:List (Nat×Value))(he:(parts.map fun(i,x)=>(i,a.eval x)).toList=vs)(cells:Array Value)(hf:P.built t vs=some cells)
  (h:wpList P ops Q rest (a.put dst (.agg cells)) w):wpList P ops Q (o :: rest) a w:=by
 subst oG;refine wpList_build hg t parts ho (by rw[he,hf];rfl) ?_;rw[he,hf];exact h
theorem wpList_boxTo{P:Program}{ops:Array Oper}{rest:List Oper}{o:Oper}{a:Act}{w:World}{Q:Exit->Act->World->Prop}(hg:o.guard=none)(t:TypeId)(x:Operand)(ho:o.op=.box t x)(dst:Option Tmp)(oG:o.dst=dst)
  (cells:Array Value)(hx:a.eval x=.agg cells)
  (h:wpList P ops Q rest (a.put dst (.pointer (some ⟨w.heap.size,0,none⟩))) (w.alloc (.cells cells t))):wpList P ops Q (o :: rest) a w:=by
 refine Great.wpList_runTo hg dst oG (.pointer (some ⟨w.heap.size,0,none⟩)) _ ?_ h;unfold execOp;simp[ho,Instr.box,newVar,newRow,hx,Value.cells,Result.andThen]
theorem dE{P:Program}{ops:Array Oper}{rest:List Oper}{o:Oper}{a:Act}{w:World}{Q:Exit->Act->World->Prop}(hg:o.guard=none)(t:TypeId)(ho:o.op=.alloc t)(dst:Option Tmp)(oG:o.dst=dst)
  (cells:Array Value)(hi:(P.info? t).map (·.zero)=some (some (.agg cells)))(N:Nat)(hN:w.heap.size=N)
  (h:wpList P ops Q rest (a.put dst (.pointer (some ⟨N,0,none⟩))) (w.alloc (.cells cells t))):wpList P ops Q (o :: rest) a w:=by
 subst hN;refine Great.wpList_runTo hg dst oG (.pointer (some ⟨w.heap.size,0,none⟩)) _ ?_ h;cases yX:P.info? t with
 |none=>simp[yX]at hi
 |some ie =>
  simp only[yX,Option.map_some,bw]at hi;unfold execOp;simp[ho,Instr.alloc,zeroValue,typeInfo,yX,hi,newVar,newRow,Value.cells,Sem.run_bind,Result.andThen]
def iA(p:Value)(f:Nat->Nat->Int):List Value:=p :: (dh f++((List.replicate 6 (dS cF zeroV)).flatten++[.int .i64 0,.slice none 0 0]))
theorem tT(B:Nat):prog.built 72 [(0,.pointer (some ⟨B,0,none⟩))]=some (iA (.pointer (some ⟨B,0,none⟩)) (fun _ _=>0)).toArray:=af
theorem wH(p:Value)(f:Nat->Nat->Int)(hn:n<6):iA p f=(iA p f).take (17+n*45)++(dS cF zeroV++(iA p f).drop (17+n*45+45)):=by
 rcases(show n=0\/n=1\/n=2\/n=3\/n=4\/n=5 from ab)with rfl|rfl|rfl|rfl|rfl|rfl<;>rfl
section
variable {xw : Option (Nat × bu)} {a U U' : World} {T : Nat} {t : cX}
theorem tU{T:Nat}{pv:Nat->bh}(hf:Fr aU a W)(hT:a.heap.size<=T)(hb:W.heap[T]?=some (.cells (iA (.pointer (some ⟨B,0,none⟩)) (fun _ _=>0)).toArray 72 (0,0)))(hw:aQ a.heap.size W B pv lW):aI none a W T il:=by
 have hr:=qb hb;refine⟨⟨B,fun _=>zeroV,.slice none 0 0,fun _=>0,⟨⟨_,hb,rfl⟩,hr 0 _ rfl,?_,fun n hn=>?_,hr 287 _ rfl,hr 288 _ rfl⟩,⟨fun _=>pv,?_,?_⟩,⟨[],rfl,aV _ _ _ _,fun _ h=>(by cases h)⟩,fun n hn=>⟨fun h=>absurd rfl h,fun h=>by rcases h with h|h<;>cases h⟩⟩,hT,hf⟩
 ·exact ep (p:=[_]) (q:=dh (fun _ _=>0)) hr
 ·rw[wH _ _ hn]at hr;have:=ep hr
  rwa [show 0+((iA (.pointer (some ⟨B,0,none⟩)) (fun _ _=>0)).take (17+n*45)).length=17+n*45 by
   rw[bE,show(iA (.pointer (some ⟨B,0,none⟩)) (fun _ _=>0)).length=289 from rfl];omega]at this
 ·intro i C x hi;unfold ez at hi;split at hi
  ·cases hi;exact hw
  ·split at hi
   ·cases hi
   ·split at hi
    ·rename_i h;rcases h.2 with h|h<;>cases h
    ·cases hi
 ·intro i j C x D y yO hi hj;exfalso;have key:∀k E z,ez none B (fun _=>0) il k=some (E,z)->k=6:=fun k E z hk=>by
   unfold ez at hk;split at hk
   ·assumption
   ·split at hk
    ·cases hk
    ·split at hk
     ·rename_i h;rcases h.2 with h|h<;>cases h
     ·cases hk
  exact yO ((key _ _ _ hi).trans (key _ _ _ hj).symm)
theorem tV(hf:Fr aU a U):Calls prog 10 #[] U fun e w'=>∃T,e=.returned (.pointer (some ⟨T,0,none⟩))/\aI none a w' T il/\Fr aU U w':=by
 go_enter func10,ntmps10;go_wp2_with fail
 refine(wG U).mono ?_;rintro e u⟨B,pv,rfl,hw,hu⟩;have HE:=O (tU (a:=a) (W:=u.alloc (.cells (iA (.pointer (some ⟨B,0,none⟩)) (fun _ _=>0)).toArray 72)) (T:=u.heap.size) (B:=B) (pv:=pv) ((hf.trans hu).alloc _) (hf.trans hu).size (aB _ _) ((hw _ hf.size).dv ((Fr.refl aU u).alloc _)));have Ka:=O hu;clear hw hu;obtain⟨x,hx⟩:∃x,x=iA (.pointer (some ⟨B,0,none⟩)) (fun _ _=>0):=⟨_,rfl⟩;have HX:=O hx
 rw[<-hx]at HE;dsimp only;refine ‹∀ (a:Act) (w:World),wpList _ _ _ _ a w->_› _ _ ?_;refine wpList_buildTo rfl 72 _ rfl (some 2) rfl [(0,.pointer (some ⟨B,0,none⟩))] (by simp only[bF,bp,bQ];rfl) x.toArray (by rw[HX.o];exact tT B) ?_;clear hx;refine wpList_boxTo rfl 72 (.tmp 2) rfl (some 3) rfl x.toArray rfl ?_;go_wp2;go_ret;exact⟨_,rfl,HE.o,Ka.o.alloc _⟩
end
theorem tW(f:Nat->Nat->Int):prog.built 72 [(1,.agg (dh f).toArray)]=some (iA (.pointer none) f).toArray:=af
theorem tX:(prog.info? 72).map (·.zero)=some (some (.agg (iA (.pointer none) (fun _ _=>0)).toArray)):=af
theorem tY:(prog.info? 72).map (·.size)=some 289:=af
theorem wI(f:Nat->Nat->Int):(iA (.pointer none) f).toArray.all (·.oneCell')=true :=
 all_oneCell_toArray (by
  intro u hu;unfold iA at hu;rcases aD.1 hu with rfl|hu
  ·rfl
  ·rcases aE.1 hu with hu|hu
   ·unfold dh at hu;simp only[aD,aZ,ct]at hu;rcases hu with rfl|rfl|rfl|rfl|rfl|rfl|rfl|rfl|rfl|rfl|rfl|rfl|rfl|rfl|rfl|rfl<;>rfl
   ·rcases aE.1 hu with hu|hu
    ·obtain⟨l,hl,Hn⟩:=List.mem_flatten.1 hu;rw[List.eq_of_mem_replicate hl]at Hn;have:=kj cF zeroV rfl rfl;rw[List.all_toArray,cM]at this;exact this u Hn
    ·simp only[aD,aZ,ct]at hu;rcases hu with rfl|rfl<;>rfl)
theorem wJ(p:Value)(f:Nat->Nat->Int){q:Nat}(hq:q<4)(hi:i<4):(iA p f).toArray[1+q*4+i]?=some (.int .i64 (f q i)):=by
 have:=pW f hq hi;rw[List.getElem?_toArray,Nat.add_assoc];unfold iA;rw[Nat.add_comm 1,List.getElem?_cons_succ,List.getElem?_append_left (by rw[dX];omega)];exact this
def iB(U:World)(f:Nat->Nat->Int):World:=(((U.alloc (.cells bG 51)).alloc (.cells (iA (.pointer none) (fun _ _=>0)).toArray 72)).setRow (U.heap.size+1) (iA (.pointer none) f).toArray)
def jt(U:World)(f:Nat->Nat->Int):World:=((iB U f).alloc (.cells #[.slice none 0 0] 113)).alloc (.cells #[.slice none 0 0] 113)
section
variable {xw : Option (Nat × bu)} {a U U' : World} {T : Nat} {t : cX}
theorem lo(U:World)(f:Nat->Nat->Int):(iB U f).heap.size=U.heap.size+2:=by
 unfold iB;rw[World.setRow];simp[Array.size_modify]
theorem ko(U:World)(f:Nat->Nat->Int):Fr aU U (jt U f)/\(jt U f).heap.size=U.heap.size+4/\(jt U f).heap[U.heap.size]?=some (.cells bG 51 (0,0))/\(jt U f).heap[U.heap.size+1]?=some (.cells (iA (.pointer none) f).toArray 72 (0,0))/\(jt U f).heap[U.heap.size+2]?=some (.cells #[.slice none 0 0] 113 (0,0))/\(jt U f).heap[U.heap.size+3]?=some (.cells #[.slice none 0 0] 113 (0,0)):=by
 have s1:(U.alloc (.cells bG 51)).heap.size=U.heap.size+1:=aK;have b1:=aB (U.alloc (.cells bG 51)) (.cells (iA (.pointer none) (fun _ _=>0)).toArray 72);rw[s1]at b1;have b2:(iB U f).heap[U.heap.size+1]?=some (.cells (iA (.pointer none) f).toArray 72 (0,0)):=gI b1;have f0:Fr aU U (U.alloc (.cells bG 51)):=(Fr.refl _ _).alloc _
 have f1:Fr aU (U.alloc (.cells bG 51)) (iB U f):=fH ((Fr.refl _ _).alloc _) (by rw[s1];exact ar _) _;have r1:(iB U f).heap[U.heap.size]?=some (.cells bG 51 (0,0)):=f1.keep (aB U _) (fun h=>h);have sw:=lo U f;have a1:=aB (iB U f) (.cells #[.slice none 0 0] 113);have a2:=aB ((iB U f).alloc (.cells #[.slice none 0 0] 113)) (.cells #[.slice none 0 0] 113)
 have s2:((iB U f).alloc (.cells #[.slice none 0 0] 113)).heap.size=U.heap.size+3:=by simp[sw]
 rw[sw]at a1;rw[s2]at a2;have f2:Fr aU (iB U f) ((iB U f).alloc (.cells #[.slice none 0 0] 113)):=(Fr.refl _ _).alloc _;have f3:Fr aU ((iB U f).alloc (.cells #[.slice none 0 0] 113)) (jt U f):=(Fr.refl _ _).alloc _;exact⟨((f0.trans f1).trans f2).trans f3,by unfold jt;simp[sw],f3.keep (f2.keep r1 (fun h=>h)) (fun h=>h),f3.keep (f2.keep b2 (fun h=>h)) (fun h=>h),f3.keep a1 (fun h=>h),a2⟩
structure AB (U:World) (f:Nat->Nat->Int) (V:World):Prop where
 rep:V.heap[U.heap.size]?=some (.cells bG 51 (0,0))
 was:V.heap[U.heap.size+1]?=some (.cells (iA (.pointer none) f).toArray 72 (0,0))
 var:V.heap[U.heap.size+3]?=some (.cells #[.slice none 0 0] 113 (0,0))
 kept:bS U V
theorem AB.keeps(U:World)(f:Nat->Nat->Int)(hb:U.heap.size+4<=base):hO base (U.heap.size+2) (AB U f):=by
 intro V V' Z h hf hz;have key:∀n,n<U.heap.size+4->n≠U.heap.size+2->¬Z n:=fun n h1 h2 h3=>by
  rcases hz n h3 with e|⟨e,_⟩
  ·exact h2 e
  ·omega
 exact⟨hf.keep h.rep (key _ ab ab),hf.keep h.was (key _ ab ab),hf.keep h.var (key _ ab ab),h.kept.step hf fun n c e hn _ _ q=>key n ab ab q⟩
structure uO (U:World) (f:Nat->Nat->Int) (bs:Nat) (va:Value) (l:List Int) (V:World):Prop where
 rep:V.heap[U.heap.size]?=some (.cells bG 51 (0,0))
 was:V.heap[U.heap.size+1]?=some (.cells (iA (.pointer none) f).toArray 72 (0,0))
 var:V.heap[U.heap.size+2]?=some (.cells #[va] 113 (0,0))
 rows:OwnRows bs 3 1 V va (l.map fY)
 kept:bS U V
theorem uO.keeps(U:World)(f:Nat->Nat->Int)(hb:U.heap.size+4<=base)(hv:∀b,va.ownBlock=some b->b<base/\b≠U.heap.size+3):hO base (U.heap.size+3) (uO U f bs va l):=by
 intro V V' Z h hf hz;have key:∀n,n<base->n≠U.heap.size+3->¬Z n:=fun n h1 h2 h3=>by
  rcases hz n h3 with e|⟨e,_⟩
  ·exact h2 e
  ·omega
 exact⟨hf.keep h.rep (key _ ab ab),hf.keep h.was (key _ ab ab),hf.keep h.var (key _ ab ab),h.rows.fr hf fun b hb q=>key b (hv b hb).1 (hv b hb).2 q,h.kept.step hf fun n c e hn _ _ q=>key n ab ab q⟩
theorem uO.dv{V':World}(h:uO U f bs va l V)(hf:Fr aU V V'):uO U f bs va l V' :=
 ⟨hf.keep h.rep (fun h=>h),hf.keep h.was (fun h=>h),hf.keep h.var (fun h=>h),h.rows.fr hf (fun _ _ h=>h),h.kept.trans (a_ hf)⟩
theorem rb(h:aI xw a U T t)(f:Nat->Nat->Int)(hW:W=jt U f)(o:dK)(hs:List dP)(ho:dL W o hs) :
  Calls prog 42 #[.pointer (some ⟨T,0,none⟩),.agg o.cells.toArray,.func (.func 43) #[] #[.pointer (some ⟨U.heap.size+2,0,none⟩)]] W fun e w'=>e=.returned (.tuple #[])/\iz xw a T t (U.heap.size+4) (U.heap.size+2) t.num (AB U f) (dw (o.cH hs)) w':=by
 subst hW;obtain⟨c1,c2,c3,c4,c5,c6⟩:=ko U f;have hk:=AB.keeps U f (ar _);refine gu (jt U f) T o hs _ _ Tryz.call43 (iz xw a T t (U.heap.size+4) (U.heap.size+2) t.num (AB U f)) ?_ (fun d V V' hV hf=>hV.dv hk hf) (tP hk) ho;have:=h.fr.size;exact⟨h.dv c1,⟨_,c5,aV _ _ _ _⟩,⟨ab,ab,ab⟩,⟨c3,c4,c6,a_ c1⟩⟩
theorem ph{l:List (Nat×Nat)}(hV:iz xw a T t (U.heap.size+4) (U.heap.size+2) t.num (AB U f) l V)(o:dK)(hs:List dP)(ho:dL V o hs) :
  ∃va,Calls prog 42 #[.pointer (some ⟨U.heap.size+1,0,none⟩),.agg o.cells.toArray,.func (.func 44) #[] #[.pointer (some ⟨U.heap.size+3,0,none⟩)]] V fun e w'=>e=.returned (.tuple #[])/\iz xw a T t V.heap.size (U.heap.size+3) f (uO U f (U.heap.size+4) va (iy l t.num)) (dw (o.cH hs)) w':=by
 obtain⟨va,v1,v2⟩:=hV.rows;have hl:=hV.low;have hk:hO V.heap.size (U.heap.size+3) (uO U f (U.heap.size+4) va (iy l t.num)):=uO.keeps U f hl.2.1 fun b hb=>⟨v2.lt b hb,by have:=v2.block b hb;omega⟩
 refine⟨va,gu V _ o hs _ _ Tryz.call44 (iz xw a T t V.heap.size (U.heap.size+3) f (uO U f (U.heap.size+4) va (iy l t.num))) ?_ (fun d V V' hV hf=>hV.dv hk hf) (tQ hk (fun W hW=>⟨_,hW.was,fun q i hq hi=>wJ _ f hq hi⟩)) ho⟩;exact⟨hV.tabs,⟨_,hV.rest.var,aV _ _ _ _⟩,⟨ab,ar _,ab⟩,⟨hV.rest.rep,hV.rest.was,v1,v2,hV.rest.kept⟩⟩
theorem tZ{l:List (Nat×Nat)}(hl:l=dw o)(hV:iz xw a T t bs (U.heap.size+3) f (uO U f (U.heap.size+4) va (iy l t.num)) l V) :
  ∃vb,V.cell? ⟨U.heap.size+2,0,none⟩=some va/\V.cell? ⟨U.heap.size+3,0,none⟩=some vb/\(∃a1 n1 c1,va=.slice a1 n1 c1)/\(∃a1 n1 c1,vb=.slice a1 n1 c1)/\Calls prog 45 #[va,vb] V fun e w'=>e=.returned (.bool (decide (kX o t.num=kX o f)))/\Fr aU V w':=by
 obtain⟨vb,w1,w2⟩:=hV.rows;have r:=hV.rest;obtain⟨a1,c1,e1⟩:=r.rows.form;obtain⟨a2,c2,e2⟩:=w2.form;refine⟨vb,by simp[World.cell?,r.var],by simp[World.cell?,w1],⟨_,_,_,e1⟩,⟨_,_,_,e2⟩,?_⟩;have:=zB (l:=iy l t.num) (l':=iy l f) r.rows.at w2.at (by rw[gy,gy]) (by rw[gy,hl];have:=nH o;omega);rw[hl]at this;exact this
end
section
variable {xw : Option (Nat × bu)} {a U U' : World} {T : Nat} {t : cX}
def qh(xw:Option (Nat×bu))(a U:World)(T:Nat)(r:cX×(dG×Bool))(e:Ending)(w':World):Prop :=
 e=.returned (.tuple #[.agg #[.int .i64 r.2.1.what,.string r.2.1.head,.int .i64 r.2.1.cert],.bool r.2.2,.nilIface])/\aI xw a w' T r.1/\bS U w'
theorem jE{r:dG×Bool}(h:aI xw a W T t')(hk:bS U W)(hR:U.heap.size<=R)(ha:a.heap.size<=R)(hr:W.heap[R]?=some (.cells bG 51 (0,0)))(cs:Array Value)(he:e=.returned (.tuple #[.agg #[.int .i64 r.1.what,.string r.1.head,.int .i64 r.1.cert],.bool r.2,.nilIface])):qh xw a U T (t',r) e (W.setRow R cs) :=
 ⟨he,h.zv ((Fr.refl (one R) _).setRow (fun _=>rfl) _) (fun n hn=>by have e':n=R:=hn;omega) (fun n hn=>by cases(show n=R from hn);exact⟨_,_,hr,l9⟩),hk.new ((Fr.refl (one R) _).setRow (fun _=>rfl) _) hR⟩
theorem wK(t:cX)(n:Nat)(x y:gM):(t.put n x).put n y=t.put n y:=by
 unfold cX.put;simp only
 congr 1
 funext i
 split<;>rfl
theorem bW.fits{v:eU}(h:bW base V (v.o,v.hs) o):dL V v.o v.hs/\v.o.cH v.hs=o:=⟨h.fit,h.is⟩
theorem pj(h:aI xw a U T t)(hi:i<6)(hd:(t.tab i).does=3){k:Int}(hk:k<1000000)(hf:cJ k t)(hl:t.cI.length<1000000) :
  Calls prog 25 #[.pointer (some ⟨T,0,none⟩),.int .i64 i,.pointer (some ⟨T,17+i*45,none⟩)] U (qh xw a U T (cV t i)):=by
 have zY:(t.tab i).does≠0:=ab;obtain⟨c1,c2,c3,c4,c5,c6⟩:=ko U (t.tab i).num;obtain⟨W4,DE⟩:∃W4,W4=jt U (t.tab i).num:=⟨_,rfl⟩;rw[<-DE]at c1 c2 c3 c4 c5 c6;have h4:=h.dv c1;obtain⟨v, -, v1, -, -, v4⟩:=h4.at hi;obtain⟨Ho,Hr⟩:=(v4 zY).fits;have Hs:=O v1;have uN:=O (rb h (t.tab i).num DE v.o v.hs Ho);rw[Hr]at uN;have Fl:=h.lt;obtain⟨_, -, -, n0, -, -⟩:=h.at hi
 have FH:=O (show(U.alloc (.cells bG 51)).rangeAt T (17+i*45+26) (dh (t.tab i).num)from eH n0 ((Fr.refl aU U).alloc _) (fun h=>h));have DF:=O DE;have xJ:=O hk;have wL:=O hf;have HL:=O hl;have HD:=O hd;have HI:=O hi;have HA:=O h.fr.size
 have rF:=O (show((U.alloc (.cells bG 51)).alloc (.cells (iA (.pointer none) (fun _ _=>0)).toArray 72)).heap[U.heap.size+1]?=some (.cells (iA (.pointer none) (fun _ _=>0)).toArray 72 (0,0))from by
  have:=aB (U.alloc (.cells bG 51)) (.cells (iA (.pointer none) (fun _ _=>0)).toArray 72);simpa using this)
 obtain⟨f,vD⟩:∃f,f=(t.tab i).num:=⟨_,rfl⟩;rw[<-vD]at FH uN DF;have HF:=O vD;clear h h4 v1 v4 Ho Hr n0 c1 c2 c3 c4 c5 c6 DE hk hf hl hd zY vD;unfold jt at DF;go_enter func25,ntmps25
 go_wp2_with (first|((with_reducible refine dC 18 ?_);go_must(refine wpList_load_mid rfl 67 (.tmp 17) rfl T (17+i*45+26) rfl (dh f) _ FH.o underlying67 rfl af ?_);go_must(refine wpList_buildTo rfl 72 _ rfl (some 19) rfl [(1,.agg (dh f).toArray)] (by simp only[bF,bp,bQ];rfl) (iA (.pointer none) f).toArray (tW f) ?_);go_must(refine dE rfl 72 rfl (some 9) rfl (iA (.pointer none) (fun _ _=>0)).toArray tX (U.heap.size+1) aK ?_);go_must(refine wpList_store_row rfl 72 (.tmp 9) (.tmp 19) rfl (U.heap.size+1) (iA (.pointer none) f).toArray rfl rfl 72 (iA (.pointer none) (fun _ _=>0)).toArray rF.o tY rfl (wI f) ?_);change wpList _ _ _ _ _ (iB U f);have vH:=lo U f;generalize iB U f=W2 at *)|((with_reducible refine dC 24 ?_);rw[<-DF.o];go_must(refine wpList_load_mid rfl 35 (.tmp 23) rfl T (17+i*45+1) rfl v.o.cells _ Hs.o underlying35 rfl af ?_))|fail)
 refine uN.o.mono ?_;rintro e u⟨rfl,hu⟩;clear vH DF Hs uN rF FH;obtain⟨v2, -, m1, -, -, m4⟩:=hu.tabs.at HI.o;obtain⟨Ht,Hu⟩:=(m4 (by rw[HD.o];decide)).fits;obtain⟨va,hcs⟩:=ph hu v2.o v2.hs Ht;rw[Hu]at hcs;have Hv:=O m1;have kx:=O hcs;clear hu m1 m4 Ht Hu hcs
 go_wp2_with (first|((with_reducible refine dC 30 ?_);go_must(refine wpList_load_mid rfl 35 (.tmp 29) rfl T (17+i*45+1) rfl v2.o.cells _ Hv.o underlying35 rfl af ?_))|fail)
 refine kx.o.mono ?_;rintro e u2⟨rfl,jB⟩;obtain⟨vb,d1,d2,⟨a1,n1,b1,rfl⟩,⟨a2,n2,b2,rfl⟩,hce⟩:=tZ rfl jB;have zD:=O hce;have s6:=O jB;clear jB hce Hv kx;go_wp2_with fail
 refine zD.o.mono ?_;rintro e u3⟨rfl,yM⟩;have zE:=O (s6.o.tabs.dv yM);have r3:=s6.o.rest.dv yM;have tA:=O r3.rep;have AD:=O r3.kept;clear d1 d2 yM r3 zD s6;rw[HF.o];clear HF;obtain⟨R,hR⟩:∃R,R=U.heap.size:=⟨_,rfl⟩;have uP:=O (show U.heap.size<=R from ab);have uQ:=O (show a.heap.size<=R by have:=HA.o;omega);rw[<-hR]at tA ⊢;clear hR;have Kb:=wL.o.fails i
 by_cases hv:kX (t.tab i).op t.num=kX (t.tab i).op (t.tab i).num
 ·rw[aM hv];obtain⟨v3, -, k1, -, k3,k4⟩:=zE.o.at HI.o;obtain⟨CC,CD⟩:=(k4 (by rw[HD.o];decide)).fits;have FI:=eo u3 v3.o v3.hs CC;rw[CD]at FI;have AE:=O FI;have DG:=O k1;clear FI k1 k3 k4 CC CD Kb;cases hw:(bd (t.tab i).op).2
  ·as_aux_lemma =>
    have HE:=O (show cV t i=(dV t i (t.tab i).cP,(t.tab i).cP,true)by unfold cV;rw[aq hv,hw];rfl);rw[hw]at AE;clear hv hw;go_wp2_with (first|((with_reducible refine dC 66 ?_);go_must(refine wpList_load_mid rfl 35 (.tmp 65) rfl T (17+i*45+1) rfl v3.o.cells _ DG.o underlying35 rfl af ?_))|fail)
    refine AE.o.mono ?_;rintro e u4⟨rfl,wM⟩;have xP:=zE.o.dv wM;obtain⟨-, -, -, -, k3, -⟩:=xP.at HI.o;have FJ:=O k3;have CE:=O (km xP HI.o (t.tab i).cP (by rw[HD.o];decide) HL.o);have sM:=O (wM.keep tA.o (fun h=>h));have AF:=O (AD.o.trans (a_ wM));clear wM xP k3 AE DG zE tA AD;generalize (t.tab i).cP=rr at *
    go_wp2_with (first|((with_reducible refine dC 99 ?_);go_must(refine wpList_load_mid rfl 51 (.tmp 98) rfl T (17+i*45+42) rfl (eL rr) _ FJ.o underlying51 rfl af ?_))|fail)
    refine CE.o.mono ?_;rintro e u5⟨rfl,z1,z2⟩;have l7:=O (z2.block sM.o fi);have uR:=O z1;have zF:=O (AF.o.trans z2);clear z1 z2;go_wp2_with (first|((with_reducible refine dm 51 ?_);go_must(refine wpList_store_row rfl 51 (.tmp 6) (.tmp 101) rfl R #[.int .i64 rr.what,.string rr.head,.int .i64 rr.cert] rfl rfl _ bG l7.o (aX _ rfl) rfl bN ?_))|fail)
    refine bodyPost_ret (cL bq _ _ R 51 #[.int .i64 rr.what,.string rr.head,.int .i64 rr.cert] (0,0) _ rfl (setRow_heap _ R _ _ _ _ l7.o) underlying51 rfl (aX _ rfl)) rfl ?_;rw[HE.o];exact jE uR.o zF.o uP.o uQ.o l7.o _ rfl
  ·as_aux_lemma =>
    have HE:=O (show cV t i=(dV {t with w:=dH t.w (t.tab i).seen (t.tab i).op.part (bd (t.tab i).op).1,num:=kY (t.tab i).op t.num} i (t.tab i).cP,(t.tab i).cP,true)by unfold cV;rw[aq hv,hw];rfl);rw[hw]at AE;clear hv hw;go_wp2_with (first|((with_reducible refine dC 66 ?_);go_must(refine wpList_load_mid rfl 35 (.tmp 65) rfl T (17+i*45+1) rfl v3.o.cells _ DG.o underlying35 rfl af ?_))|fail)
    refine AE.o.mono ?_;rintro e u4⟨rfl,wM⟩;have xP:=zE.o.dv wM.drew;have sM:=O (show u4.drew.heap[R]?=some (.cells bG 51 (0,0))from wM.drew.keep tA.o (fun h=>h));have AF:=O (AD.o.trans (a_ wM.drew));obtain⟨B,g,sv,sb,p1,p2,p3,p4⟩:=xP.ex;have zG:=(p4 i HI.o).2 (Or.inr HD.o);have xQ:(g i).o.ak.part=(t.tab i).op.part:=by rw[<-((p4 i HI.o).1 (by rw[HD.o];decide)).is];rfl
    have FK:=O (aI.main p1 p2 p3 p4 xP.low xP.fr (x':=dH t.w (t.tab i).seen (t.tab i).op.part (bd (t.tab i).op).1) (fun pv hw=>by
     obtain⟨qv,hq⟩:=p2.at (i:=i) (B:=sb i) (x:=(t.tab i).seen) (by
      have:=HI.o;unfold ez;rw[aj ab,aj ab,aq ⟨HI.o,Or.inr HD.o⟩])
     exact q7 hw hq (wL.o.seen i (Or.inr HD.o)) (t.tab i).op.part (qI _)))
    have m0:=p1.main;have DH:u4.drew.cell? ⟨T,17+i*45+25,none⟩=some (.pointer (some ⟨sb i,0,none⟩)):=by rw[<-zG];exact p1.tab i HI.o 25 _ rfl
    have m2:u4.drew.cell? ⟨T,17+i*45+1+1,none⟩=some (.int .i64 (t.tab i).op.part):=by rw[<-xQ];exact p1.tab i HI.o 2 _ rfl
    have wN:=O zG;have rI:=O xQ;clear wM xP p1 p2 p3 p4 zG xQ AE DG zE tA AD;obtain⟨cn,zH⟩:∃cn:Nat,cn=(bd (t.tab i).op).1:=⟨_,rfl⟩;obtain⟨pt,xQ⟩:∃pt:Int,pt=(t.tab i).op.part:=⟨_,rfl⟩;have Kc:=O zH;have Hw:=O xQ;rw[<-zH, <-xQ]at FK;rw[<-xQ]at m2;rw[<-zH];clear zH xQ;go_wp2_with fail
    refine wp_region_held_drew (S:=(fun V=>V.cell? ⟨T,0,none⟩=some (.pointer (some ⟨B,0,none⟩))/\V.cell? ⟨T,17+i*45+25,none⟩=some (.pointer (some ⟨sb i,0,none⟩))/\V.cell? ⟨T,17+i*45+1+1,none⟩=some (.int .i64 pt))) af (by exact⟨m0,DH,m2⟩) ?_;intro rA;refine aA 0 71 rfl ?_
    try simp only[Act.put,sA,sB,sC]
    refine aA 1 72 rfl ?_
    try simp only[Act.put,sA,sB,sC]
    refine aA 2 73 rfl ?_
    try simp only[Act.put,sA,sB,sC]
    refine aA 3 74 rfl ?_
    try simp only[Act.put,sA,sB,sC]
    refine aA 4 75 rfl ?_
    try simp only[Act.put,sA,sB,sC]
    refine aA 5 76 rfl ?_
    try simp only[Act.put,sA,sB,sC]
    refine aA 6 77 rfl ?_
    try simp only[Act.put,sA,sB,sC]
    refine aA 7 78 rfl ?_
    try simp only[Act.put,sA,sB,sC]
    refine aA 8 79 rfl ?_
    try simp only[Act.put,sA,sB,sC]
    refine aA 9 80 rfl ?_
    try simp only[Act.put,sA,sB,sC]
    refine aA 10 81 rfl ?_
    try simp only[Act.put,sA,sB,sC]
    refine aA 11 82 rfl ?_
    try simp only[Act.put,sA,sB,sC]
    refine aA 12 83 rfl ?_
    try simp only[Act.put,sA,sB,sC]
    refine aA 13 84 rfl ?_
    try simp only[Act.put,sA,sB,sC]
    refine aA 14 85 rfl ?_
    try simp only[Act.put,sA,sB,sC]
    refine dr 15 rfl fun K hK=>?_;go_simp;refine FK.o.mono ?_;rintro e u5⟨rfl,z1,z2,z3⟩;have uR:=O z1;have l7:=O ((bS.oF z3).block sM.o fi);have xR:=O (AF.o.trans (bS.oF z3))
    have rB:u5.cell? ⟨T,0,none⟩=some (.pointer (some ⟨B,0,none⟩))/\u5.cell? ⟨T,17+i*45+25,none⟩=some (.pointer (some ⟨sb i,0,none⟩))/\u5.cell? ⟨T,17+i*45+1+1,none⟩=some (.int .i64 pt):=⟨z2.main,by rw[<-wN.o];exact z2.tab i HI.o 25 _ rfl,by rw[Hw.o, <-rI.o];exact z2.tab i HI.o 2 _ rfl⟩;refine hK.out _ _ rB ?_;intro uB;clear hK K rA rB uB z1 z2 z3 m0 DH m2 FK sM AF;refine wpAnyH_done af ?_ _
    have FL:=uR.o;obtain⟨v6, -, k1, -, -, k4⟩:=FL.at HI.o;obtain⟨CC,CD⟩:=(k4 (show((t.tab i).does≠0)by rw[HD.o];decide)).fits;have FM:pd T (fun V=>V.heap[R]?=some (.cells bG 51 (0,0))/\bS U V):=fun V V' c hS hc hF=>⟨hF.keep hS.1 (fun e=>by
     cases(show R=T from e);have:=hS.1;rw[hc]at this;cases this),hS.2.tabs hc hF⟩
    have FN:=gu u5 T v6.o v6.hs _ #[] Tryz.call48 (tR xw a T {t with w:=dH t.w (t.tab i).seen pt cn} (fun V=>V.heap[R]?=some (.cells bG 51 (0,0))/\bS U V)) ⟨by rw[q8];exact FL,l7.o,xR.o⟩ (fun d V V' hV hf=>hV.dv FM hf) (wE FM (fun p i=>⟨(wL.o.num p i).1,by have h1:=(wL.o.num p i).2;have h2:=xJ.o;show t.num p i<_;omega⟩)) CC;rw[show v6.o.cH v6.hs=(t.tab i).op from CD]at FN;have Hx:=O FN;have Hy:=O k1
    clear FL k1 k4 CC CD FM FN uR l7 xR;go_wp2_with (first|((with_reducible refine dC 91 ?_);go_must(refine wpList_load_mid rfl 35 (.tmp 90) rfl T (17+i*45+1) rfl v6.o.cells _ Hy.o underlying35 rfl af ?_))|fail)
    refine Hx.o.mono ?_;rintro e u6⟨rfl,DI⟩;have DJ:=DI.tabs;obtain⟨-, -, -, -, k3, -⟩:=DJ.at HI.o;have FJ:=O (show u6.rangeAt T (17+i*45+42) (eL (t.tab i).cP)from k3);have Hz:=km DJ HI.o (t.tab i).cP (show(t.tab i).does≠0 by rw[HD.o];decide) HL.o;have sM:=O DI.rest.1;have AF:=O DI.rest.2
    have HJ:=O (show({t with w:=dH t.w (t.tab i).seen (t.tab i).op.part (bd (t.tab i).op).1,num:=kY (t.tab i).op t.num}:cX)={({t with w:=dH t.w (t.tab i).seen pt cn}:cX)with num:=gw (dw (t.tab i).op) t.num}from by rw[Hw.o,Kc.o];rfl);rw[HJ.o]at HE;have CE:=O Hz;clear DI DJ k3 Hz Hx Hy HJ;generalize (t.tab i).cP=rr at *
    go_wp2_with (first|((with_reducible refine dC 99 ?_);go_must(refine wpList_load_mid rfl 51 (.tmp 98) rfl T (17+i*45+42) rfl (eL rr) _ FJ.o underlying51 rfl af ?_))|fail)
    refine CE.o.mono ?_;rintro e u5⟨rfl,z1,z2⟩;have l7:=O (z2.block sM.o fi);have uR:=O z1;have zF:=O (AF.o.trans z2);clear z1 z2;go_wp2_with (first|((with_reducible refine dm 51 ?_);go_must(refine wpList_store_row rfl 51 (.tmp 6) (.tmp 101) rfl R #[.int .i64 rr.what,.string rr.head,.int .i64 rr.cert] rfl rfl _ bG l7.o (aX _ rfl) rfl bN ?_))|fail)
    refine bodyPost_ret (cL bq _ _ R 51 #[.int .i64 rr.what,.string rr.head,.int .i64 rr.cert] (0,0) _ rfl (setRow_heap _ R _ _ _ _ l7.o) underlying51 rfl (aX _ rfl)) rfl ?_;rw[HE.o];exact jE uR.o zF.o uP.o uQ.o l7.o _ rfl
 ·rw[aN hv];have q0:(0:Int)<=((t.tab i).fails:Int):=ab;have q3:((t.tab i).fails:Int)<=3:=ab;have DK:=zE.o;obtain⟨B,g,sv,sb,p1, -⟩:=DK.ex;have Lb:u3.cell? ⟨T,17+i*45+23,none⟩=some (.int .i64 (t.tab i).fails):=p1.tab i HI.o 23 _ rfl;have f23:=p1.free (17+i*45+23)
  obtain⟨s1,s2⟩:=DK.tS HI.o (j:=23) ae (.int .i64 ((t.tab i).fails+1:Nat)) (x:={t.tab i with fails:=(t.tab i).fails+1}) (fun _=>rfl) rfl (fun h=>h) (fun h=>⟨h,rfl⟩);rw[show(((t.tab i).fails+1:Nat):Int)=((t.tab i).fails:Int)+1 from ab]at s1 s2;obtain⟨cT,mj⟩:=DK.kind;have Az:R≠T:=fun e=>by
   have:=tA.o;rw[e,mj]at this;cases this
  have l7:=O (s2.keep tA.o (fun e=>Az e));have xR:=O (AD.o.tabs mj s2);have CF:=O s1;clear DK p1 s1 s2 mj zE tA AD;by_cases h3:((t.tab i).fails:Int)+1<=3
  ·as_aux_lemma =>
    have HE:=O (show cV t i=(t.put i {t.tab i with fails:=(t.tab i).fails+1,does:=1},rep 0,false)by unfold cV;rw[aj hv,aq ab]);obtain⟨b1,b2⟩:=CF.o.tS HI.o (j:=0) ae (.int .i64 1) (x:={t.tab i with fails:=(t.tab i).fails+1,does:=1}) (fun _=>by rw[eE];rfl) (by rw[eE]) (fun _=>by rw[eE];show(t.tab i).does≠0;rw[HD.o];decide) (fun h=>by simp at h);rw[wK,show 17+i*45+0=17+i*45 from rfl]at b1
    rw[show 17+i*45+0=17+i*45 from rfl]at b2;have Kd:=O b1;obtain⟨Lc,CG⟩:=CF.o.kind;have mB:=O (b2.keep l7.o (fun e=>Az e));have CH:=O (xR.o.tabs CG b2);obtain⟨B5,g5,Ld,Lf,p5, -⟩:=CF.o.ex;have c0:=p5.tab i HI.o 0 _ rfl;rw[show 17+i*45+0=17+i*45 from rfl]at c0;have f0:=p5.free (17+i*45);clear hv b1 b2 CG p5 CF l7 xR
    go_wp2_with (first|((with_reducible refine dm 51 ?_);go_must(refine wpList_store_row rfl 51 (.tmp 6) (.tmp 53) rfl R #[.int .i64 0,.string ⟨#[]⟩,.int .i64 0] rfl rfl _ bG mB.o (aX _ rfl) rfl bN ?_))|fail)
    refine bodyPost_ret (cL bq _ _ R 51 #[.int .i64 0,.string ⟨#[]⟩,.int .i64 0] (0,0) _ rfl (setRow_heap _ R _ _ _ _ mB.o) underlying51 rfl (aX _ rfl)) rfl ?_;rw[HE.o];exact jE Kd.o CH.o uP.o uQ.o mB.o _ rfl
  ·as_aux_lemma =>
    have HE:=O (show cV t i=(dV (t.put i {t.tab i with fails:=(t.tab i).fails+1}) i (rep 6),rep 6,true)by unfold cV;rw[aj hv,aj ab]);have CE:=O (km CF.o HI.o (rep 6) (by rw[eE];show(t.tab i).does≠0;rw[HD.o];decide) HL.o);clear hv;go_wp2_with fail
    refine CE.o.mono ?_;rintro e u5⟨rfl,z1,z2⟩;have mB:=O (z2.block l7.o fi);have uR:=O z1;have zF:=O (xR.o.trans z2);clear z1 z2;go_wp2_with (first|((with_reducible refine dm 51 ?_);go_must(refine wpList_store_row rfl 51 (.tmp 6) (.tmp 59) rfl R #[.int .i64 6,.string ⟨#[]⟩,.int .i64 0] rfl rfl _ bG mB.o (aX _ rfl) rfl bN ?_))|fail)
    refine bodyPost_ret (cL bq _ _ R 51 #[.int .i64 6,.string ⟨#[]⟩,.int .i64 0] (0,0) _ rfl (setRow_heap _ R _ _ _ _ mB.o) underlying51 rfl (aX _ rfl)) rfl ?_;rw[HE.o];exact jE uR.o zF.o uP.o uQ.o mB.o _ rfl
end
section
variable {xw : Option (Nat × bu)} {a U U' : World} {T : Nat} {t : cX}
def fI(xw:Option (Nat×bu))(a U:World)(T:Nat)(r:cX×(dG×Bool×Nat))(e:Ending)(w':World):Prop :=
 e=.returned (.tuple #[.agg #[.int .i64 r.2.1.what,.string r.2.1.head,.int .i64 r.2.1.cert],.bool r.2.2.1,kG r.2.2.2])/\aI xw a w' T r.1/\bS U w'
theorem step_end{r:dG×Bool×Nat}(h:aI xw a W T t')(hk:bS U W)(hR:U.heap.size<=R)(ha:a.heap.size<=R)(hr:W.heap[R]?=some (.cells bG 51 (0,0)))(cs:Array Value)(he:e=.returned (.tuple #[.agg #[.int .i64 r.1.what,.string r.1.head,.int .i64 r.1.cert],.bool r.2.1,kG r.2.2])):fI xw a U T (t',r) e (W.setRow R cs) :=
 ⟨he,h.zv ((Fr.refl (one R) _).setRow (fun _=>rfl) _) (fun n hn=>by have e':n=R:=hn;omega) (fun n hn=>by cases(show n=R from hn);exact⟨_,_,hr,l9⟩),hk.new ((Fr.refl (one R) _).setRow (fun _=>rfl) _) hR⟩
def FO(a:World)(x:bu)(op:df):Prop:=∀(V:World) (B:Nat) (pv:Nat->bh) (o:dK) (hs:List dP),o.cH hs=op->aQ a.heap.size V B pv x->Fr aU a V->dL V o hs ->
 Calls prog 24 #[.pointer (some ⟨B,0,none⟩),.agg o.cells.toArray] V fun e w'=>e=.returned (.agg #[.int .i64 (fX x op).2.what,.string (fX x op).2.head,.int .i64 (fX x op).2.cert])/\aL a.heap.size V B pv (fX x op).1 w'
theorem aI.tick(h:aI xw a U T t)(k:Int):aI xw a (U.setCell ⟨T,287,none⟩ (.int .i64 k)) T {t with steps:=k}/\Fr (one T) U (U.setCell ⟨T,287,none⟩ (.int .i64 k)):=by
 obtain⟨B,g,sv,sb,h1,h2,h3,h4⟩:=h.ex;have q:=h1.ny k;exact⟨aI.put (t':={t with steps:=k}) h1 h2 h3 h4 h.low h.fr q rfl (fun _ _ hp=>hp) (fun j hj=>⟨fun hd=>Or.inl ⟨rfl,rfl,rfl,hd⟩,(h4 j hj).2⟩),q.2⟩
theorem aI.cells(h:aI xw a U T t)(hi:i<6):U.cell? ⟨T,17+i*45,none⟩=some (.int .i64 (t.tab i).does)/\U.cell? ⟨T,287,none⟩=some (.int .i64 t.steps)/\(∀k,U.frozen? ⟨T,k,none⟩=false)/\U.rangeAt T 1 (dh t.num)/\(∀o n,o+n<=289->U.there T o n):=by
 obtain⟨B,g,sv,sb,h1,h2,h3,h4⟩:=h.ex;exact⟨h1.tab i hi 0 _ rfl,h1.steps,fun k=>h1.free k,h1.num,fun o n hn=>h1.there hn⟩
theorem ml{b o:Nat}{p r:List Value}(h:U.rangeAt b o (p++(q++r)))(hl:q'.length=q.length)(ht:U.there b (o+p.length) q'.length):(U.setCells b (o+p.length) q').rangeAt b o (p++(q'++r)):=fun j v hj=>by
 by_cases h1:j<p.length
 ·rw[List.getElem?_append_left h1]at hj;rw[World.cell?_setCells_out b q' _ U ⟨b,o+j,none⟩ (fun _ _=>Or.inl (show o+j<o+p.length from ab))];exact h j v (by rw[List.getElem?_append_left h1];exact hj)
 ·by_cases h2:j<p.length+q'.length
  ·rw[List.getElem?_append_right ab,List.getElem?_append_left ab]at hj;have:=World.rangeAt_setCells_same U b (o+p.length) q' ht (j-p.length) v hj
   rwa [show o+p.length+(j-p.length)=o+j from ab]at this
  ·rw[List.getElem?_append_right ab,List.getElem?_append_right ab]at hj;rw[World.cell?_setCells_out b q' _ U ⟨b,o+j,none⟩ (fun _ _=>Or.inr (show o+p.length+q'.length<=o+j from ab))];exact h j v (by rw[List.getElem?_append_right ab,List.getElem?_append_right ab, <-hl];exact hj)
theorem bL.t_(h:bL U T B g sv t)(hn:n<6){p r:List Value}{w:eU}(hx:dS (t.tab n) (g n)=p++(q++r))(hl:q'.length=q.length)(DB:dS x w=p++(q'++r)) :
  bL (U.setCells T (17+n*45+p.length) q') T B (fun i=>if i=n then w else g i) sv (t.put n x)/\Fr (one T) U (U.setCells T (17+n*45+p.length) q'):=by
 have hlen:p.length+q'.length<=45:=by
  have:=eM x w;rw[DB]at this;simp at this;omega
 refine⟨⟨dA T _ _ q' _ _ h.cR,bl h.main (Or.inl ab),World.rangeAt_setCells_apart h.num T _ q' (Or.inr (Or.inl (by rw[dX];omega))),fun m hm=>?_,bl h.steps (Or.inr ab),bl h.st (Or.inr ab)⟩,dN T q' _ _ (Fr.refl _ _)⟩;by_cases e:m=n
 ·subst e;show World.rangeAt _ T (17+m*45) (dS (if m=m then x else t.tab m) (if m=m then w else g m));rw[aq rfl,aq rfl,DB];have:=h.tab m hm;rw[hx]at this;exact ml this hl (h.there ab)
 ·show World.rangeAt _ T (17+m*45) (dS (if m=n then x else t.tab m) (if m=n then w else g m));rw[aj e,aj e];exact World.rangeAt_setCells_apart (h.tab m hm) T _ q' (by
   right;rw[eM];rcases Nat.lt_or_ge m n with q|q
   ·left;omega
   ·right;omega)
theorem kp{P:Program}{ops:Array Oper}{a:Act}{w:World}{K:Act->World->Prop}{Q:Exit->Act->World->Prop}{E:Prop}{op:Oper}(uu:op.guard=none)(ty:TypeId)(x y:Operand)(ho:op.op=.store ty x y)
  (b o:Nat)(v:Value)(hx:a.eval x=.pointer (some ⟨b,o,none⟩))(hy:a.eval y=v)(hv:v.cells= #[v])
  (ht:w.there b o 1)(hi:(P.info? ty).map (·.size)=some 1)(h1:v.oneCell'=true)
  (h:K (a.put op.dst undef) (w.setCell ⟨b,o,none⟩ v)):if Region.wanted op (yielded ops a.tmps)=true then Oper.wp P op a w K Q else E:=by
 have hw:Region.wanted op (yielded ops a.tmps)=true:=by simp[Region.wanted,uu]
 rw[aq hw];have hr:(storeVar ty ⟨b,o,none⟩ v).run P w=.ok () (w.setCells b o [v]):=by
  have e:storeVar ty ⟨b,o,none⟩ v=storeVar ty ⟨b,o,none⟩ (.agg #[v]):=by
   unfold storeVar;rw[hv];rfl
  rw[e];exact run_storeVar_mid w b o ty #[v] ht hi (by simp[h1])
 unfold Oper.wp execOp;simp only[ho,hx,hy,Instr.storeAt,Instr.sureAddr,Sem.run_bind,Sem.run_pure,Result.andThen_ok,hr];exact h
theorem ua(r:dG):(eL r).toArray.all (·.oneCell')=true :=
 all_oneCell_toArray (by
  intro u hu;unfold eL at hu;simp only[aD,aZ,ct]at hu;rcases hu with rfl|rfl|rfl<;>rfl)
theorem ub(f:Nat->Nat->Int):(dh f).toArray.all (·.oneCell')=true :=
 all_oneCell_toArray (by
  intro u hu;unfold dh at hu;simp only[aD,aZ,ct]at hu;rcases hu with rfl|rfl|rfl|rfl|rfl|rfl|rfl|rfl|rfl|rfl|rfl|rfl|rfl|rfl|rfl|rfl<;>rfl)
theorem aI.H_{c:Array Value}(hb:bL W T B g sv t)(hw:gU a.heap.size U (ez xw B sb t))(he:eQ a.heap.size U sv t.cI)(ho:∀n,n<6->(t.tab n).does≠0->bW a.heap.size U ((g n).o,(g n).hs) (t.tab n).op)(hp:∀n,n<6->(t.tab n).does=2\/(t.tab n).does=3->(g n).sp=.pointer (some ⟨sb n,0,none⟩))(hc:U.heap[T]?=some (.cells c 72 (0,0)))(hF:Fr (one T) U W)(g_:a.heap.size<=T)(dU:Fr aU a U):aI xw a W T t :=
 ⟨⟨B,g,sv,sb,hb,hw.one g_ hc eX.1 eX.2 ae hF,he.one hc ae ae hF,fun n hn=>⟨fun hd=>(ho n hn hd).one hc ae hF,hp n hn⟩⟩,g_,dU.step hF fun k hk e=>by
  have:k=T:=e;omega⟩
theorem re{B C:Nat}{g:Nat->eU}{sv:Value}{sb:Nat->Nat}{i:Nat}{qv:Nat->bh}(hi:i<6)(h1:bL U T B g sv t)(h2:gU a.heap.size U (ez xw B sb t))(h3:eQ a.heap.size U sv t.cI)
  (h4:∀n,n<6->((t.tab n).does≠0->bW a.heap.size U ((g n).o,(g n).hs) (t.tab n).op)/\((t.tab n).does=2\/(t.tab n).does=3->(g n).sp=.pointer (some ⟨sb n,0,none⟩)))(hd:(t.tab i).does≠0)(g_:a.heap.size<=T)(dU:Fr aU a U)
  (hF:Fr aU U U')(hc:aQ a.heap.size U' C qv t.w)(hn:∀j,dJ C qv j->U.heap.size<=j) :
  aI xw a (((U'.setCell ⟨T,17+i*45+25,none⟩ (.pointer (some ⟨C,0,none⟩))).setCells T (17+i*45+26) (dh t.num)).setCell ⟨T,17+i*45,none⟩ (.int .i64 2)) T (t.put i {t.tab i with seen:=t.w,num:=t.num,does:=2})/\Fr (one T) U' (((U'.setCell ⟨T,17+i*45+25,none⟩ (.pointer (some ⟨C,0,none⟩))).setCells T (17+i*45+26) (dh t.num)).setCell ⟨T,17+i*45,none⟩ (.int .i64 2))/\((U'.setCell ⟨T,17+i*45+25,none⟩ (.pointer (some ⟨C,0,none⟩))).setCells T (17+i*45+26) (dh t.num)).cell? ⟨T,17+i*45,none⟩=some (.int .i64 (t.tab i).does)/\(∀k,((U'.setCell ⟨T,17+i*45+25,none⟩ (.pointer (some ⟨C,0,none⟩))).setCells T (17+i*45+26) (dh t.num)).frozen? ⟨T,k,none⟩=false)/\(U'.setCell ⟨T,17+i*45+25,none⟩ (.pointer (some ⟨C,0,none⟩))).there T (17+i*45+26) 16:=by
 have b1:=h1.fr hF (fun h=>h);have w1:gU a.heap.size U' (ez xw B (fun j=>if j=i then C else sb j) (t.put i {t.tab i with seen:=t.w,num:=t.num,does:=2})):=by
  refine(h2.add hF (i:=i) hc hn).sub fun j p hp=>?_;by_cases e:j=i
  ·subst e;rw[aq rfl];unfold ez at hp;rw[aj ab,aj ab]at hp;simpa[cX.put,hi]using hp
  ·rw[aj e];unfold ez at hp ⊢;by_cases e6:j=6
   ·rw[aq e6]at hp ⊢;exact hp
   ·rw[aj e6]at hp ⊢;simpa[cX.put,e]using hp
 have q1:=b1.jC hi (j:=25) ae (.pointer (some ⟨C,0,none⟩)) (x:=t.tab i) (w:={g i with sp:=.pointer (some ⟨C,0,none⟩)}) rfl;have q2:=q1.1.t_ (n:=i) hi (x:={t.tab i with num:=t.num}) (w:={g i with sp:=.pointer (some ⟨C,0,none⟩)})
  (p:=.int .i64 (t.tab i).does :: ((g i).o.cells++[.int .i64 (t.tab i).fails,.int .i64 (t.tab i).dZ,.pointer (some ⟨C,0,none⟩)])) (q:=dh (t.tab i).num) (q':=dh t.num) (r:=eL (t.tab i).cP)
  (by simp only[eE,bD];rfl) rfl rfl
 have q3:=q2.1.jC hi (j:=0) ae (.int .i64 2) (x:={t.tab i with num:=t.num,does:=2}) (w:={g i with sp:=.pointer (some ⟨C,0,none⟩)}) (by simp only[eE,bD];rfl);have mh:=(q1.2.trans q2.2).trans q3.2;obtain⟨c,mj,_⟩:=b1.cR;refine⟨?_,mh,?_,q2.1.free,q1.1.there ab⟩
 ·refine aI.H_ (q3.1.same (t':=t.put i {t.tab i with seen:=t.w,num:=t.num,does:=2}) rfl (fun n hn=>?_) rfl) w1 (h3.kept (cK hF)) (fun n hn ig=>?_) (fun n hn ig=>?_) mj mh g_ (dU.trans hF)
  ·by_cases e:n=i
   ·subst e;simp only[eE,bD];rfl
   ·simp[cX.put,e]
  ·by_cases e:n=i
   ·subst e;simp only[eE,bD];exact((h4 n hn).1 hd).kept (cK hF)
   ·simp only[cX.put,aj e]at ig ⊢;exact((h4 n hn).1 ig).kept (cK hF)
  ·by_cases e:n=i
   ·subst e;simp
   ·simp only[cX.put,aj e]at ig ⊢;exact(h4 n hn).2 ig
 ·exact q2.1.tab i hi 0 (.int .i64 (t.tab i).does) (by simp only[eE,bD];rfl)
theorem rf{x':bu}(r:dG)(hi:i<6)(h1:bL U T B g sv t)(h2:gU a.heap.size U (ez xw B sb (t.put i {t.tab i with seen:=x'})))(h3:eQ a.heap.size U sv t.cI)(h4:∀n,n<6->(t.tab n).does≠0->bW a.heap.size U ((g n).o,(g n).hs) (t.tab n).op)(h5:∀n,n<6->(t.tab n).does=2\/(t.tab n).does=3->(g n).sp=.pointer (some ⟨sb n,0,none⟩))(hd:(t.tab i).does=2)(g_:a.heap.size<=T)(dU:Fr aU a U) :
  aI xw a ((U.setCells T (17+i*45+42) (eL r)).setCell ⟨T,17+i*45,none⟩ (.int .i64 3)) T (t.put i {t.tab i with cP:=r,seen:=x',does:=3})/\Fr (one T) U ((U.setCells T (17+i*45+42) (eL r)).setCell ⟨T,17+i*45,none⟩ (.int .i64 3))/\(U.setCells T (17+i*45+42) (eL r)).cell? ⟨T,17+i*45,none⟩=some (.int .i64 (t.tab i).does)/\(∀k,(U.setCells T (17+i*45+42) (eL r)).frozen? ⟨T,k,none⟩=false)/\U.there T (17+i*45+42) 3:=by
 have q2:=h1.t_ (n:=i) hi (x:={t.tab i with cP:=r}) (w:=g i)
  (p:=.int .i64 (t.tab i).does :: ((g i).o.cells++(.int .i64 (t.tab i).fails :: .int .i64 (t.tab i).dZ :: (g i).sp :: dh (t.tab i).num))) (q:=eL (t.tab i).cP) (q':=eL r) (r:=[])
  rfl rfl rfl
 have q3:=q2.1.jC hi (j:=0) ae (.int .i64 3) (x:={t.tab i with cP:=r,does:=3}) (w:=g i) (by simp only[eE,bD];rfl);have mh:=q2.2.trans q3.2;obtain⟨c,mj,_⟩:=h1.cR;refine⟨?_,mh,?_,q2.1.free,h1.there ab⟩
 ·refine aI.H_ (q3.1.same (t':=t.put i {t.tab i with cP:=r,seen:=x',does:=3}) rfl (fun n hn=>?_) rfl) (h2.sub (oD rfl fun n hn ig=>?_)) h3 (fun n hn ig=>?_) (fun n hn ig=>?_) mj mh g_ dU
  ·by_cases e:n=i
   ·subst e;simp only[eE,bD];rfl
   ·simp[cX.put,e]
  ·by_cases e:n=i
   ·subst e;simp[cX.put,hd]
   ·simp only[cX.put,aj e]at ig ⊢;exact⟨ig,trivial⟩
  ·by_cases e:n=i
   ·subst e;simp only[eE,bD];exact h4 n hn ab
   ·simp only[cX.put,aj e]at ig ⊢;exact h4 n hn ig
  ·by_cases e:n=i
   ·subst e;simp only[bD];exact h5 n hn (Or.inl hd)
   ·simp only[cX.put,aj e]at ig ⊢;exact h5 n hn ig
 ·exact q2.1.tab i hi 0 (.int .i64 (t.tab i).does) (by simp only[eE,bD];rfl)
end
