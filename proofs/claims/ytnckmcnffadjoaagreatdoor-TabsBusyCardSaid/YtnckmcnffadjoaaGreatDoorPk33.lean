/- Lemmas for the law's walk. -/
import Derived.Test.YtnckmcnffadjoaaGreatDoorPk32
import Derived.Great.Walk
set_option maxRecDepth 100000
set_option maxHeartbeats 16000000
set_option linter.unusedSimpArgs false
namespace Go.Proofs.YtnckmcnffadjoaaGreatDoor
open Go.Proofs.Tryz
open Go.RowKit
variable {o:iz} {d r:List (Nat×Nat)} {c:Nat×Nat} {p i base A B bs:Nat} {f:Nat->Nat->Int} {S:World->Prop} {v va:Value} {e:Ending} {t':fD} {l:List Int} {W V:World}
theorem Mw(o:iz):(mo o).Pairwise (fun x y=>x.2<y.2):=by
 unfold mo;cases h0:(cJ o).1.testBit 0<;>cases h1:(cJ o).1.testBit 1<;>cases h2:(cJ o).1.testBit 2<;>cases h3:(cJ o).1.testBit 3<;>simp[h0,h1,h2,h3]
theorem Mx(o:iz):(mo o).length<=4:=List.length_filterMap_le _ [0,1,2,3]
theorem Xi(h:mo o=d++c :: r):c∉d:=fun hc=>by
 have hp:=Mw o;rw[h,List.pairwise_append]at hp;have:=hp.2.2 c hc c (cQ ..);omega
theorem Js(h:mo o=d++c :: r):c.1<4/\c.2<4:=by
 have hm:(c.1,c.2)∈mo o:=by rw[h];simp
 obtain⟨h1,h2,h3⟩:=EI.1 hm;refine⟨?_,h1⟩;rw[h3];split
 ·decide
 ·cases hr:o.right
  ·rw[uw hr]at h2;simp at h2
  ·obtain⟨p0,p4⟩:=iM hr;omega
theorem My(h:mo o=d++c :: r):d.length<1000:=by
 have:=Mx o;rw[h]at this;simp at this;omega
def xc(d:List (Nat×Nat))(f:Nat->Nat->Int):Nat->Nat->Int:=fun p i=>if(p,i)∈d then f p i+1 else f p i
theorem Ta(f:Nat->Nat->Int):xc [] f=f:=by funext p i;simp[xc]
theorem Pe(hc:c∉d)(f:Nat->Nat->Int):xc (d++[c]) f=fun p i=>if(p,i)=c then f p i+1 else xc d f p i:=by
 funext p i
 unfold xc;by_cases e:(p,i)=c
 ·subst e;simp
 ·by_cases m:(p,i)∈d<;>simp[e,m]
theorem Xj(f:Nat->Nat->Int)(hp:p<4)(hi:i<4)(v:Int):(lj f).set (p*4+i) (.int .i64 v)=lj (fun q j=>if(q,j)=(p,i)then v else f q j):=by
 rcases(show p=0\/p=1\/p=2\/p=3 from ab)with rfl|rfl|rfl|rfl<;>rcases(show i=0\/i=1\/i=2\/i=3 from ab)with rfl|rfl|rfl|rfl<;>rfl
def AB(d:List (Nat×Nat))(f:Nat->Nat->Int):List Int:=d.map fun c=>f c.1 c.2
theorem Tb(d:List (Nat×Nat))(c:Nat×Nat)(f:Nat->Nat->Int):AB (d++[c]) f=AB d f++[f c.1 c.2]:=by unfold AB;simp
theorem xd(d:List (Nat×Nat))(f:Nat->Nat->Int):(AB d f).length=d.length:=by unfold AB;simp
section
variable {xw : Option (Nat × dx)} {a U U' : World} {T : Nat} {t : fD}
theorem cW.Xk(h:cW xw a U T t)(hp:p<4)(hi:i<4):U.cell? ⟨T,1+p*4+i,none⟩=some (.int .i64 (t.num p i)):=by
 obtain⟨_,_,_,_,g1,_⟩:=h.ex;rw[jU];exact g1.num _ _ (QE t.num hp hi)
theorem cW.lt(h:cW xw a U T t):T<U.heap.size:=by
 obtain⟨_,_,_,_,g1,_⟩:=h.ex;exact g1.lt
theorem cW.kind(h:cW xw a U T t):∃c,U.heap[T]?=some (.cells c 75 (0,0)):=by
 obtain⟨_,_,_,_,g1,_⟩:=h.ex;obtain⟨c,hc,_⟩:=g1.eI;exact⟨c,hc⟩
theorem cW.bump(h:cW xw a U T t)(hp:p<4)(hi:i<4)(v:Int):cW xw a (U.setCell ⟨T,1+p*4+i,none⟩ (.int .i64 v)) T {t with num:=fun q j=>if(q,j)=(p,i)then v else t.num q j}:=by
 obtain⟨B,g,sv,sb,h1,h2,h3,h4⟩:=h.ex;have q:=h1.afe hp hi v (Xj t.num hp hi v);rw[<-jU]at q;exact kH (t':={t with num:=fun q j=>if(q,j)=(p,i)then v else t.num q j}) h1 h2 h3 h4 h.low h.fr q rfl (fun _ _ hp=>hp) (fun j hj=>⟨fun hd=>Or.inl ⟨rfl,rfl,rfl,hd⟩,(h4 j hj).2⟩)
structure AD (xw:Option (Nat×dx)) (a:World) (T:Nat) (t:fD) (base A:Nat) (f:Nat->Nat->Int) (S:World->Prop) (d:List (Nat×Nat)) (V:World):Prop where
 tabs:cW xw a V T t
 rows:∃v,V.heap[A]?=some (.cells #[v] 162 (0,0))/\OwnRows base 3 1 V v ((AB d f).map vT)
 low:a.heap.size<=base/\base<=V.heap.size/\a.heap.size<=A
 rest:S V
def yW(base A:Nat)(S:World->Prop):Prop:=∀V V' Z,S V->Fr Z V V'->(∀n,Z n->n=A\/(base<=n/\∃c,V.heap[n]?=some (.cells c 3 (0,0))))->S V'
theorem AD.dh(hS:yW base A S)(h:AD xw a T t base A f S d U)(hf:Fr aR U U'):AD xw a T t base A f S d U':=by
 obtain⟨v,h1,h2⟩:=h.rows;exact⟨h.tabs.dh hf,⟨v,hf.keep h1 id,h2.fr hf (fun _ _ h=>h)⟩,⟨h.low.1,aD h.low.2.1 hf.size,h.low.2.2⟩,hS _ _ _ h.rest hf (fun _ h=>absurd h id)⟩
theorem AD.add(hS:yW base A S)(h:AD xw a T t base A f S d U)(h1:U.heap[A]?=some (.cells #[v] 162 (0,0)))(h2:OwnRows base 3 1 U v ((AB d f).map vT))(hp:Jq base U A v (AB d f++[f c.1 c.2]) e U') :
  e=.returned (.tuple #[])/\AD xw a T t base A f S (d++[c]) U'/\∀(n:Nat) (k:Array Value),U.heap[n]?=some (.cells k 41 (0,0))->U'.heap[n]?=some (.cells k 41 (0,0)):=by
 obtain⟨he,v',p1,p2,p3⟩:=hp;have hz:∀n,(n=A\/own v n)->n=A\/(base<=n/\∃c,U.heap[n]?=some (.cells c 3 (0,0))):=fun n hn=>by
  rcases hn with hn|hn
  ·exact Or.inl hn
  ·exact Or.inr ⟨h2.block n hn,h2.BX hn⟩
 refine⟨he,⟨h.tabs.far p3 (fun n hn=>?_) (fun n hn=>?_),⟨v',p1,by rw[Tb];exact p2⟩,⟨h.low.1,aD h.low.2.1 p3.size,h.low.2.2⟩,hS _ _ _ h.rest p3 hz⟩,fun n k hn=>p3.keep hn (fun hh=>?_)⟩
 ·rcases hz n hn with rfl|⟨q,_⟩
  ·exact h.low.2.2
  ·exact aD h.low.1 q
 ·rcases hz n hn with rfl|⟨_,c,q⟩
  ·exact⟨_,_,h1,Xb⟩
  ·exact⟨_,_,q,aa2⟩
 ·rcases hz n hh with rfl|⟨_,c,q⟩
  ·rw[h1]at hn;cases hn
  ·rw[q]at hn;cases hn
theorem Xl(hS:yW base A S):vg (AD xw a T t base A t.num S) o T 85 #[.pointer (some ⟨A,0,none⟩)]:=by
 intro d c r hd V hV;obtain⟨v,h1,h2⟩:=hV.rows;obtain⟨c1,c2⟩:=Js hd;refine(afC h1 (hV.tabs.Xk c1 c2) h2 hV.low.2.1 (by rw[xd];exact My hd)).mono ?_;intro e w' hp;exact hV.add hS h1 h2 hp
theorem Xm{W0:Nat}(hS:yW base A S)(hW:∀V,S V->∃cs,V.heap[W0]?=some (.cells cs 75 (0,0))/\∀q i,q<4->i<4->cs[1+q*4+i]?=some (.int .i64 (f q i))) :
  vg (AD xw a T t base A f S) o W0 86 #[.pointer (some ⟨A,0,none⟩)]:=by
 intro d c r hd V hV;obtain⟨v,h1,h2⟩:=hV.rows;obtain⟨c1,c2⟩:=Js hd;obtain⟨cs,w1,w2⟩:=hW V hV.rest;have hc:V.cell? ⟨W0,1+c.1*4+c.2,none⟩=some (.int .i64 (f c.1 c.2)):=by
  simp only[World.cell?,w1];exact w2 _ _ c1 c2
 refine(afD h1 hc h2 hV.low.2.1 (by rw[xd];exact My hd)).mono ?_;intro e w' hp;exact hV.add hS h1 h2 hp
structure Xn (xw:Option (Nat×dx)) (a:World) (T:Nat) (t:fD) (S:World->Prop) (d:List (Nat×Nat)) (V:World):Prop where
 tabs:cW xw a V T {t with num:=xc d t.num}
 rest:S V
def Pf(T:Nat)(S:World->Prop):Prop:=∀V V' c,S V->V.heap[T]?=some (.cells c 75 (0,0))->Fr (one T) V V'->S V'
theorem Xn.dh(hS:Pf T S)(h:Xn xw a T t S d U)(hf:Fr aR U U'):Xn xw a T t S d U':=by
 obtain⟨c,hc⟩:=h.tabs.kind;exact⟨h.tabs.dh hf,hS _ _ _ h.rest hc (hf.mono fun _ _ h=>absurd h id)⟩
theorem aa'(hS:Pf T S)(hn:∀p i,0<=t.num p i/\t.num p i<1000000):vg (Xn xw a T t S) o T 90 #[]:=by
 intro d c r hd V hV;obtain⟨c1,c2⟩:=Js hd;have akH:=Xi hd;have hv:xc d t.num c.1 c.2=t.num c.1 c.2:=aq akH;have hc:=hV.tabs.Xk c1 c2;rw[show({t with num:=xc d t.num}:fD).num c.1 c.2=t.num c.1 c.2 from hv]at hc;obtain⟨k,hk⟩:=hV.tabs.kind;refine(afB V T (1+c.1*4+c.2) hc (by simp[World.frozen?,hk]) (hn _ _).1 (hn _ _).2).mono ?_;rintro e w'⟨rfl,rfl⟩
 have hF:Fr (one T) V (V.setCell ⟨T,1+c.1*4+c.2,none⟩ (.int .i64 (t.num c.1 c.2+1))):=(ae (one T) V).setCell (p:=⟨T,1+c.1*4+c.2,none⟩) (fun _=>rfl) _;refine⟨rfl,⟨?_,hS _ _ _ hV.rest hk hF⟩,fun n q hq=>hF.keep hq (fun e=>?_)⟩
 ·have:=hV.tabs.bump c1 c2 (t.num c.1 c.2+1);rw[Pe akH];have ee:(fun q j=>if(q,j)=(c.1,c.2)then t.num c.1 c.2+1 else xc d t.num q j)=(fun p i=>if(p,i)=c then t.num p i+1 else xc d t.num p i):=by
   funext q j
   by_cases e:(q,j)=c
   ·have e':(q,j)=(c.1,c.2):=e;rw[az e,az e'];have e1:q=c.1:=by rw[<-e]
    have e2:j=c.2:=by rw[<-e]
    rw[e1,e2]
   ·have e':¬(q,j)=(c.1,c.2):=e;rw[aq e,aq e']
  exact ee▸this
 ·cases(show n=T from e);rw[hk]at hq;cases hq
theorem gu.same{g:Nat->rp}{sv:Value}(h:gu U T B g sv t)(hn:t'.num=t.num)(ht:∀n,n<6->mX (t'.tab n) (g n)=mX (t.tab n) (g n))(hs:t'.steps=t.steps):gu U T B g sv t' :=
 ⟨h.eI,h.main,by rw[hn];exact h.num,fun n hl=>by rw[ht n hl];exact h.tab n hl,by rw[hs];exact h.steps,h.st⟩
theorem cW.main{B:Nat}{g:Nat->rp}{sv:Value}{sb:Nat->Nat}{f:FuncId}{args:Array Value}{R:Ending->Prop}{x':dx}(h1:gu U T B g sv t)(h2:xL a.heap.size U (oD xw B sb t))(h3:ot a.heap.size U sv t.cX)
  (h4:∀n,n<6->((t.tab n).does≠0->jS a.heap.size U ((g n).o,(g n).hs) (t.tab n).op)/\((t.tab n).does=2\/(t.tab n).does=3->(g n).sp=.pointer (some ⟨sb n,0,none⟩)))(lp:a.heap.size<=T)(cK:Fr aR a U)
  (hc:∀pv,cz a.heap.size U B pv t.w->Calls prog f args U fun e w'=>R e/\dk a.heap.size U B pv x' w') :
  Calls prog f args U fun e w'=>R e/\cW xw a w' T {t with w:=x'}/\gu w' T B g sv t/\Kept U w':=by
 refine(xL.act h2 cK (ay _) (i:=6) (B:=B) (x:=t.w) rfl hc).mono ?_;rintro e w'⟨r1,r2,r3,r4⟩;refine⟨r1,⟨⟨B,g,sv,sb,(r4.eI h1).same rfl (fun _ _=>rfl) rfl,r2.sub (fun i p hp=>?_),h3.kept r4,fun n hn=>⟨fun hd=>((h4 n hn).1 hd).kept r4,(h4 n hn).2⟩⟩,lp,r3⟩,r4.eI h1,r4⟩;by_cases e:i=6
 ·subst e;exact hp
 ·rw[aq e];unfold oD at hp ⊢;rw[aq e]at hp ⊢;exact hp
theorem cW.seen{B:Nat}{g:Nat->rp}{sv:Value}{sb:Nat->Nat}{f:FuncId}{args:Array Value}{R:Ending->Prop}{x':dx}{i:Nat}(hi:i<6)(hd:(t.tab i).does=2\/(t.tab i).does=3)(h1:gu U T B g sv t)(h2:xL a.heap.size U (oD xw B sb t))(h3:ot a.heap.size U sv t.cX)
  (h4:∀n,n<6->((t.tab n).does≠0->jS a.heap.size U ((g n).o,(g n).hs) (t.tab n).op)/\((t.tab n).does=2\/(t.tab n).does=3->(g n).sp=.pointer (some ⟨sb n,0,none⟩)))(_hlow:a.heap.size<=T)(cK:Fr aR a U)
  (hc:∀pv,cz a.heap.size U (sb i) pv (t.tab i).seen->Calls prog f args U fun e w'=>R e/\dk a.heap.size U (sb i) pv x' w') :
  Calls prog f args U fun e w'=>R e/\(gu w' T B g sv t/\xL a.heap.size w' (oD xw B sb (t.put i {t.tab i with seen:=x'}))/\ot a.heap.size w' sv t.cX/\(∀n,n<6->((t.tab n).does≠0->jS a.heap.size w' ((g n).o,(g n).hs) (t.tab n).op))/\Fr aR a w')/\Kept U w':=by
 have hw:oD xw B sb t i=some (sb i,(t.tab i).seen):=by
  unfold oD;rw[aq ab,aq ab,az ⟨hi,hd⟩]
 refine(xL.act h2 cK (ay _) hw hc).mono ?_;rintro e w'⟨r1,r2,r3,r4⟩;refine⟨r1,⟨r4.eI h1,r2.sub (fun j p hp=>?_),h3.kept r4,fun n hn hd=>((h4 n hn).1 hd).kept r4,r3⟩,r4⟩;by_cases e:j=i
 ·subst e;rw[az rfl];unfold oD at hp;rw[aq ab,aq ab]at hp;split at hp
  ·rw[<-hp];simp[fD.put]
  ·cases hp
 ·rw[aq e];unfold oD at hp ⊢;by_cases e6:j=6
  ·rw[az e6]at hp ⊢;exact hp
  ·rw[aq e6]at hp ⊢;simpa[fD.put,e]using hp
theorem cW.Xo(h:cW xw a U T t)(hi:i<6){j:Nat}(hj:j<45)(v:Value){x:vd}(hx:∀g,(mX (t.tab i) g).set j v=mX x g)(ho:x.op=(t.tab i).op)(h0:x.does≠0->(t.tab i).does≠0)(hs:x.does=2\/x.does=3->((t.tab i).does=2\/(t.tab i).does=3)/\x.seen=(t.tab i).seen) :
  cW xw a (U.setCell ⟨T,17+i*45+j,none⟩ v) T (t.put i x)/\Fr (one T) U (U.setCell ⟨T,17+i*45+j,none⟩ v):=by
 obtain⟨B,g,sv,sb,h1,h2,h3,h4⟩:=h.ex;have q:=h1.C6 hi hj v (hx (g i));refine⟨kH (t':=t.put i x) h1 h2 h3 h4 h.low h.fr q rfl (OM rfl fun n hn hd=>?_) (fun n hn=>?_),q.2⟩
 ·by_cases e:n=i
  ·subst e;simp only[fD.put,eb]at hd ⊢;exact hs hd
  ·simp only[fD.put,aq e]at hd ⊢;exact⟨hd,trivial⟩
 ·by_cases e:n=i
  ·subst e;simp only[fD.put,eb];exact⟨fun hd=>Or.inl ⟨trivial,trivial,ho,h0 hd⟩,fun hd=>(h4 n hn).2 (hs hd).1⟩
  ·simp only[fD.put,aq e];exact⟨fun hd=>Or.inl ⟨trivial,trivial,trivial,hd⟩,(h4 n hn).2⟩
theorem cW.at(h:cW xw a U T t)(hi:i<6):∃v:rp,U.rangeAt T (17+i*45) (mX (t.tab i) v)/\U.rangeAt T (17+i*45+1) v.o.cells/\U.rangeAt T (17+i*45+26) (lj (t.tab i).num)/\U.rangeAt T (17+i*45+42) (o_ (t.tab i).dI)/\((t.tab i).does≠0->jS a.heap.size U (v.o,v.hs) (t.tab i).op):=by
 obtain⟨B,g,sv,sb,h1,h2,h3,h4⟩:=h.ex;have hr:=h1.tab i hi;refine⟨g i,hr,jT (p:=[.int .i64 (t.tab i).does]) (q:=(g i).o.cells) hr,?_,?_,(h4 i hi).1⟩
 ·have:=jT (p:=.int .i64 (t.tab i).does :: ((g i).o.cells++[.int .i64 (t.tab i).fails,.int .i64 (t.tab i).gG,(g i).sp])) (q:=lj (t.tab i).num) (r:=o_ (t.tab i).dI) (U:=U) (b:=T) (o:=17+i*45) hr;exact this
 ·have:=jT (p:=.int .i64 (t.tab i).does :: ((g i).o.cells++(.int .i64 (t.tab i).fails :: .int .i64 (t.tab i).gG :: (g i).sp :: lj (t.tab i).num))) (q:=o_ (t.tab i).dI) (r:=[]) (U:=U) (b:=T) (o:=17+i*45) hr;exact this
theorem acS(h:dV 1 U v (l.map vT))(hl:l≠ []):∃b o c,v=.slice (some ⟨b,o,none⟩) l.length c/\∀j,j<l.length->U.cell? ⟨b,o+j,none⟩=some (.int .i64 (l.getD j 0)):=by
 rcases h.2 with ⟨a',c',e1,e2,e3⟩|⟨bk,o',c,hf,g1,g2,g3,g4⟩
 ·exact absurd (by simpa using e2) hl
 ·rw[ai]at hf;refine⟨bk,o',c,hf,fun j hj=>?_⟩;have:=g4 j (vT (l.getD j 0)) (by simp[List.getElem?_eq_getElem hj,List.getD_eq_getElem?_getD]) 0 _ rfl;simpa using this
theorem afI{v':Value}{l':List Int}(h:dV 1 U v (l.map vT))(h':dV 1 U v' (l'.map vT))(hl:l.length=l'.length)(hs:l.length<1000) :
  Calls prog 87 #[v,v'] U fun e w'=>e=.returned (.bool (decide (l=l')))/\Fr aR U w':=by
 by_cases h0:l=[]
 ·subst h0;have TY:l'=[]:=dF.1 hl.symm;subst TY;obtain⟨a1,c1,e1⟩:=h.form;obtain⟨a2,c2,e2⟩:=h'.form;rw[e1,e2];refine(slices_Equal_int_empty a1 a2 c1 0 c2 U ag).mono ?_;rintro e w'⟨rfl,rfl⟩;exact⟨rfl,ae _ _⟩
 ·have TY:l'≠ []:=fun e=>h0 (dF.1 (by rw[hl,e];rfl));obtain⟨b1,o1,c1,e1,f1⟩:=acS h h0;obtain⟨b2,o2,c2,e2,f2⟩:=acS h' TY;rw[e1,e2];refine(slices_Equal_int b1 o1 l.length c1 b2 o2 l'.length c2 l l' U (ay _) (ay _) ab ab f1 f2).mono ?_;rintro e w'⟨rfl,q,rfl⟩;refine⟨?_,(ae aR U).drewN q⟩;rw[List.take_length,List.take_length]
  congr 2
  by_cases e:l=l'<;>simp[e]
end
theorem wpList_buildTo{P:Program}{ops:Array Oper}{rest:List Oper}{o:Oper}{a:Act}{w:World}{Q:Exit->Act->World->Prop}(hg:o.guard=none)(t:TypeId)(parts:Array (Nat×Operand))(ho:o.op=.build t parts)(dst:Option Tmp)(Ph:o.dst=dst)
  (vs:List (Nat×Value))(he:(parts.map fun(i,x)=>(i,a.eval x)).toList=vs)(cells:Array Value)(hf:P.built t vs=some cells)
  (h:wpList P ops Q rest (a.put dst (.agg cells)) w):wpList P ops Q (o :: rest) a w:=by
 subst Ph;refine wpList_build hg t parts ho (by rw[he,hf];rfl) ?_;rw[he,hf];exact h
theorem wpList_boxTo{P:Program}{ops:Array Oper}{rest:List Oper}{o:Oper}{a:Act}{w:World}{Q:Exit->Act->World->Prop}(hg:o.guard=none)(t:TypeId)(x:Operand)(ho:o.op=.box t x)(dst:Option Tmp)(Ph:o.dst=dst)
  (cells:Array Value)(hx:a.eval x=.agg cells)
  (h:wpList P ops Q rest (a.put dst (.pointer (some ⟨w.heap.size,0,none⟩))) (w.alloc (.cells cells t))):wpList P ops Q (o :: rest) a w:=by
 refine Great.wpList_runTo hg dst Ph (.pointer (some ⟨w.heap.size,0,none⟩)) _ ?_ h;unfold execOp;simp[ho,Instr.box,newVar,newRow,hx,Value.cells,Result.andThen]
theorem jb{P:Program}{ops:Array Oper}{rest:List Oper}{o:Oper}{a:Act}{w:World}{Q:Exit->Act->World->Prop}(hg:o.guard=none)(t:TypeId)(ho:o.op=.alloc t)(dst:Option Tmp)(Ph:o.dst=dst)
  (cells:Array Value)(hi:(P.info? t).map (·.zero)=some (some (.agg cells)))(N:Nat)(hN:w.heap.size=N)
  (h:wpList P ops Q rest (a.put dst (.pointer (some ⟨N,0,none⟩))) (w.alloc (.cells cells t))):wpList P ops Q (o :: rest) a w:=by
 subst hN;refine Great.wpList_runTo hg dst Ph (.pointer (some ⟨w.heap.size,0,none⟩)) _ ?_ h;cases hie:P.info? t with
 |none=>simp[hie]at hi
 |some ie =>
  simp only[hie,Option.map_some,en]at hi;unfold execOp;simp[ho,Instr.alloc,zeroValue,typeInfo,hie,hi,newVar,newRow,Value.cells,Sem.run_bind,Result.andThen]
def AE(p:Value)(f:Nat->Nat->Int):List Value:=p :: (lj f++((List.replicate 6 (mX fe zeroV)).flatten++[.int .i64 0,.slice none 0 0]))
theorem Xp(B:Nat):prog.built 75 [(0,.pointer (some ⟨B,0,none⟩))]=some (AE (.pointer (some ⟨B,0,none⟩)) (fun _ _=>0)).toArray:=af
theorem abb(p:Value)(f:Nat->Nat->Int){n:Nat}(hn:n<6):AE p f=(AE p f).take (17+n*45)++(mX fe zeroV++(AE p f).drop (17+n*45+45)):=by
 rcases(show n=0\/n=1\/n=2\/n=3\/n=4\/n=5 from ab)with rfl|rfl|rfl|rfl|rfl|rfl<;>rfl
section
variable {xw : Option (Nat × dx)} {a U U' : World} {T : Nat} {t : fD}
theorem Xq{T:Nat}{pv:Nat->cU}(hf:Fr aR a W)(hT:a.heap.size<=T)(hb:W.heap[T]?=some (.cells (AE (.pointer (some ⟨B,0,none⟩)) (fun _ _=>0)).toArray 75 (0,0)))(hw:cz a.heap.size W B pv yN):cW none a W T sa:=by
 have hr:=vB hb;refine⟨⟨B,fun _=>zeroV,.slice none 0 0,fun _=>0,⟨⟨_,hb,rfl⟩,hr 0 _ rfl,?_,fun n hn=>?_,hr 287 _ rfl,hr 288 _ rfl⟩,⟨fun _=>pv,?_,?_⟩,⟨[],rfl,dv _ _ _ _,fun _ h=>(by cases h)⟩,fun n hn=>⟨fun h=>absurd rfl h,fun h=>by rcases h with h|h<;>cases h⟩⟩,hT,hf⟩
 ·exact jT (p:=[_]) (q:=lj (fun _ _=>0)) hr
 ·rw[abb _ _ hn]at hr;have:=jT hr
  rwa [show 0+((AE (.pointer (some ⟨B,0,none⟩)) (fun _ _=>0)).take (17+n*45)).length=17+n*45 by
   rw[aJ,show(AE (.pointer (some ⟨B,0,none⟩)) (fun _ _=>0)).length=289 from rfl];omega]at this
 ·intro i C x hi;unfold oD at hi;split at hi
  ·cases hi;exact hw
  ·split at hi
   ·cases hi
   ·split at hi
    ·rename_i h;rcases h.2 with h|h<;>cases h
    ·cases hi
 ·intro i j C x D y Q8 hi hj;exfalso;have key:∀k E z,oD none B (fun _=>0) sa k=some (E,z)->k=6:=fun k E z hk=>by
   unfold oD at hk;split at hk
   ·assumption
   ·split at hk
    ·cases hk
    ·split at hk
     ·rename_i h;rcases h.2 with h|h<;>cases h
     ·cases hk
  exact Q8 ((key _ _ _ hi).trans (key _ _ _ hj).symm)
theorem MB(hf:Fr aR a U):Calls prog 22 #[] U fun e w'=>∃T,e=.returned (.pointer (some ⟨T,0,none⟩))/\cW none a w' T sa/\Fr aR U w':=by
 go_enter func22,ntmps22;go_wp2_with fail
 refine(Jt U).mono ?_;rintro e u⟨B,pv,rfl,hw,hu⟩;have HE:=O (Xq (a:=a) (W:=u.alloc (.cells (AE (.pointer (some ⟨B,0,none⟩)) (fun _ _=>0)).toArray 75)) (T:=u.heap.size) (B:=B) (pv:=pv) ((hf.trans hu).alloc _) (hf.trans hu).size (aB _ _) ((hw _ hf.size).dh ((ae aR u).alloc _)));have HUF:=O hu;clear hw hu;obtain⟨x,hx⟩:∃x,x=AE (.pointer (some ⟨B,0,none⟩)) (fun _ _=>0):=⟨_,rfl⟩;have HX:=O hx
 rw[<-hx]at HE;dsimp only;refine ‹∀ (a:Act) (w:World),wpList _ _ _ _ a w->_› _ _ ?_;refine wpList_buildTo rfl 75 _ rfl (some 2) rfl [(0,.pointer (some ⟨B,0,none⟩))] (by simp only[eC,cA,dn];rfl) x.toArray (by rw[HX.o];exact Xp B) ?_;clear hx;refine wpList_boxTo rfl 75 (.tmp 2) rfl (some 3) rfl x.toArray rfl ?_;go_wp2;go_ret;exact⟨_,rfl,HE.o,HUF.o.alloc _⟩
end
theorem Xr(f:Nat->Nat->Int):prog.built 75 [(1,.agg (lj f).toArray)]=some (AE (.pointer none) f).toArray:=af
theorem Xs:(prog.info? 75).map (·.zero)=some (some (.agg (AE (.pointer none) (fun _ _=>0)).toArray)):=af
theorem Xt:(prog.info? 75).map (·.size)=some 289:=af
theorem abc(f:Nat->Nat->Int):(AE (.pointer none) f).toArray.all (·.oneCell')=true :=
 bW (by
  intro u hu;unfold AE at hu;rcases bB.1 hu with rfl|hu
  ·rfl
  ·rcases bK.1 hu with hu|hu
   ·unfold lj at hu;simp only[bB,cq,dU]at hu;rcases hu with rfl|rfl|rfl|rfl|rfl|rfl|rfl|rfl|rfl|rfl|rfl|rfl|rfl|rfl|rfl|rfl<;>rfl
   ·rcases bK.1 hu with hu|hu
    ·obtain⟨l,hl,hul⟩:=fL.1 hu;rw[List.eq_of_mem_replicate hl]at hul;have:=Aw fe zeroV rfl rfl;rw[List.all_toArray,gA]at this;exact this u hul
    ·simp only[bB,cq,dU]at hu;rcases hu with rfl|rfl<;>rfl)
theorem abd(p:Value)(f:Nat->Nat->Int){q:Nat}(hq:q<4)(hi:i<4):(AE p f).toArray[1+q*4+i]?=some (.int .i64 (f q i)):=by
 have:=QE f hq hi;rw[List.getElem?_toArray,jU];unfold AE;rw[Nat.add_comm 1,List.getElem?_cons_succ,List.getElem?_append_left (by rw[nE];omega)];exact this
def AF(U:World)(f:Nat->Nat->Int):World:=(((U.alloc (.cells bR 30)).alloc (.cells (AE (.pointer none) (fun _ _=>0)).toArray 75)).setRow (U.heap.size+1) (AE (.pointer none) f).toArray)
def CG(U:World)(f:Nat->Nat->Int):World:=((AF U f).alloc (.cells #[.slice none 0 0] 162)).alloc (.cells #[.slice none 0 0] 162)
section
variable {xw : Option (Nat × dx)} {a U U' : World} {T : Nat} {t : fD}
theorem Hv(U:World)(f:Nat->Nat->Int):(AF U f).heap.size=U.heap.size+2:=by
 unfold AF;rw[World.setRow];simp[Array.size_modify]
theorem EU(U:World)(f:Nat->Nat->Int):Fr aR U (CG U f)/\(CG U f).heap.size=U.heap.size+4/\(CG U f).heap[U.heap.size]?=some (.cells bR 30 (0,0))/\(CG U f).heap[U.heap.size+1]?=some (.cells (AE (.pointer none) f).toArray 75 (0,0))/\(CG U f).heap[U.heap.size+2]?=some (.cells #[.slice none 0 0] 162 (0,0))/\(CG U f).heap[U.heap.size+3]?=some (.cells #[.slice none 0 0] 162 (0,0)):=by
 have s1:(U.alloc (.cells bR 30)).heap.size=U.heap.size+1:=aQ;have b1:=aB (U.alloc (.cells bR 30)) (.cells (AE (.pointer none) (fun _ _=>0)).toArray 75);rw[s1]at b1;have b2:(AF U f).heap[U.heap.size+1]?=some (.cells (AE (.pointer none) f).toArray 75 (0,0)):=kS b1;have f0:Fr aR U (U.alloc (.cells bR 30)):=(ae _ _).alloc _
 have f1:Fr aR (U.alloc (.cells bR 30)) (AF U f):=iY ((ae _ _).alloc _) (by rw[s1];exact ay _) _;have r1:(AF U f).heap[U.heap.size]?=some (.cells bR 30 (0,0)):=f1.keep (aB U _) id;have sw:=Hv U f;have a1:=aB (AF U f) (.cells #[.slice none 0 0] 162);have a2:=aB ((AF U f).alloc (.cells #[.slice none 0 0] 162)) (.cells #[.slice none 0 0] 162)
 have s2:((AF U f).alloc (.cells #[.slice none 0 0] 162)).heap.size=U.heap.size+3:=by simp[sw]
 rw[sw]at a1;rw[s2]at a2;have f2:Fr aR (AF U f) ((AF U f).alloc (.cells #[.slice none 0 0] 162)):=(ae _ _).alloc _;have f3:Fr aR ((AF U f).alloc (.cells #[.slice none 0 0] 162)) (CG U f):=(ae _ _).alloc _;exact⟨((f0.trans f1).trans f2).trans f3,by unfold CG;simp[sw],f3.keep (f2.keep r1 id) id,f3.keep (f2.keep b2 id) id,f3.keep a1 id,a2⟩
structure St1 (U:World) (f:Nat->Nat->Int) (V:World):Prop where
 rep:V.heap[U.heap.size]?=some (.cells bR 30 (0,0))
 was:V.heap[U.heap.size+1]?=some (.cells (AE (.pointer none) f).toArray 75 (0,0))
 var:V.heap[U.heap.size+3]?=some (.cells #[.slice none 0 0] 162 (0,0))
 kept:gR U V
theorem St1.keeps(U:World)(f:Nat->Nat->Int)(hb:U.heap.size+4<=base):yW base (U.heap.size+2) (St1 U f):=by
 intro V V' Z h hf hz;have key:∀n,n<U.heap.size+4->n≠U.heap.size+2->¬Z n:=fun n h1 h2 h3=>by
  rcases hz n h3 with e|⟨e,_⟩
  ·exact h2 e
  ·omega
 exact⟨hf.keep h.rep (key _ ab ab),hf.keep h.was (key _ ab ab),hf.keep h.var (key _ ab ab),h.kept.step hf fun n c e hn _ _ q=>key n ab ab q⟩
structure YC (U:World) (f:Nat->Nat->Int) (bs:Nat) (va:Value) (l:List Int) (V:World):Prop where
 rep:V.heap[U.heap.size]?=some (.cells bR 30 (0,0))
 was:V.heap[U.heap.size+1]?=some (.cells (AE (.pointer none) f).toArray 75 (0,0))
 var:V.heap[U.heap.size+2]?=some (.cells #[va] 162 (0,0))
 rows:OwnRows bs 3 1 V va (l.map vT)
 kept:gR U V
theorem YC.keeps(U:World)(f:Nat->Nat->Int)(hb:U.heap.size+4<=base)(hv:∀b,va.ownBlock=some b->b<base/\b≠U.heap.size+3):yW base (U.heap.size+3) (YC U f bs va l):=by
 intro V V' Z h hf hz;have key:∀n,n<base->n≠U.heap.size+3->¬Z n:=fun n h1 h2 h3=>by
  rcases hz n h3 with e|⟨e,_⟩
  ·exact h2 e
  ·omega
 exact⟨hf.keep h.rep (key _ ab ab),hf.keep h.was (key _ ab ab),hf.keep h.var (key _ ab ab),h.rows.fr hf fun b hb q=>key b (hv b hb).1 (hv b hb).2 q,h.kept.step hf fun n c e hn _ _ q=>key n ab ab q⟩
theorem YC.dh{V':World}(h:YC U f bs va l V)(hf:Fr aR V V'):YC U f bs va l V' :=
 ⟨hf.keep h.rep id,hf.keep h.was id,hf.keep h.var id,h.rows.fr hf (fun _ _ h=>h),h.kept.trans (eG hf)⟩
theorem Te(h:cW xw a U T t)(f:Nat->Nat->Int)(hW:W=CG U f)(o:jG)(hs:List gZ)(ho:gH W o hs) :
  Calls prog 84 #[.pointer (some ⟨T,0,none⟩),.agg o.cells.toArray,.func (.func 85) #[] #[.pointer (some ⟨U.heap.size+2,0,none⟩)]] W fun e w'=>e=.returned (.tuple #[])/\AD xw a T t (U.heap.size+4) (U.heap.size+2) t.num (St1 U f) (mo (o.dS hs)) w':=by
 subst hW;obtain⟨c1,c2,c3,c4,c5,c6⟩:=EU U f;have hk:=St1.keeps U f (ay _);refine xa (CG U f) T o hs _ _ call85 (AD xw a T t (U.heap.size+4) (U.heap.size+2) t.num (St1 U f)) ?_ (fun d V V' hV hf=>hV.dh hk hf) (Xl hk) ho;have:=h.fr.size;exact⟨h.dh c1,⟨_,c5,dv _ _ _ _⟩,⟨ab,ab,ab⟩,⟨c3,c4,c6,eG c1⟩⟩
theorem Pj{l:List (Nat×Nat)}(hV:AD xw a T t (U.heap.size+4) (U.heap.size+2) t.num (St1 U f) l V)(o:jG)(hs:List gZ)(ho:gH V o hs) :
  ∃va,Calls prog 84 #[.pointer (some ⟨U.heap.size+1,0,none⟩),.agg o.cells.toArray,.func (.func 86) #[] #[.pointer (some ⟨U.heap.size+3,0,none⟩)]] V fun e w'=>e=.returned (.tuple #[])/\AD xw a T t V.heap.size (U.heap.size+3) f (YC U f (U.heap.size+4) va (AB l t.num)) (mo (o.dS hs)) w':=by
 obtain⟨va,v1,v2⟩:=hV.rows;have hl:=hV.low;have hk:yW V.heap.size (U.heap.size+3) (YC U f (U.heap.size+4) va (AB l t.num)):=YC.keeps U f hl.2.1 fun b hb=>⟨v2.lt b hb,by have:=v2.block b hb;omega⟩
 refine⟨va,xa V _ o hs _ _ call86 (AD xw a T t V.heap.size (U.heap.size+3) f (YC U f (U.heap.size+4) va (AB l t.num))) ?_ (fun d V V' hV hf=>hV.dh hk hf) (Xm hk (fun W hW=>⟨_,hW.was,fun q i hq hi=>abd _ f hq hi⟩)) ho⟩;exact⟨hV.tabs,⟨_,hV.rest.var,dv _ _ _ _⟩,⟨ab,ay _,ab⟩,⟨hV.rest.rep,hV.rest.was,v1,v2,hV.rest.kept⟩⟩
theorem Xu{l:List (Nat×Nat)}(hl:l=mo o)(hV:AD xw a T t bs (U.heap.size+3) f (YC U f (U.heap.size+4) va (AB l t.num)) l V) :
  ∃vb,V.cell? ⟨U.heap.size+2,0,none⟩=some va/\V.cell? ⟨U.heap.size+3,0,none⟩=some vb/\(∃a1 n1 c1,va=.slice a1 n1 c1)/\(∃a1 n1 c1,vb=.slice a1 n1 c1)/\Calls prog 87 #[va,vb] V fun e w'=>e=.returned (.bool (decide (vA o t.num=vA o f)))/\Fr aR V w':=by
 obtain⟨vb,w1,w2⟩:=hV.rows;have r:=hV.rest;obtain⟨a1,c1,e1⟩:=r.rows.form;obtain⟨a2,c2,e2⟩:=w2.form;refine⟨vb,by simp[World.cell?,r.var],by simp[World.cell?,w1],⟨_,_,_,e1⟩,⟨_,_,_,e2⟩,?_⟩;have:=afI (l:=AB l t.num) (l':=AB l f) r.rows.at w2.at (by rw[xd,xd]) (by rw[xd,hl];have:=Mx o;omega);rw[hl]at this;exact this
end
section
variable {xw : Option (Nat × dx)} {a U U' : World} {T : Nat} {t : fD}
def QL(xw:Option (Nat×dx))(a U:World)(T:Nat)(r:fD×(kx×Bool))(e:Ending)(w':World):Prop :=
 e=.returned (.tuple #[.agg #[.int .i64 r.2.1.what,.string r.2.1.head,.int .i64 r.2.1.cert],.bool r.2.2,.nilIface])/\cW xw a w' T r.1/\gR U w'
theorem C8{R:Nat}{r:kx×Bool}(h:cW xw a W T t')(hk:gR U W)(hR:U.heap.size<=R)(ha:a.heap.size<=R)(hr:W.heap[R]?=some (.cells bR 30 (0,0)))(cs:Array Value)(he:e=.returned (.tuple #[.agg #[.int .i64 r.1.what,.string r.1.head,.int .i64 r.1.cert],.bool r.2,.nilIface])):QL xw a U T (t',r) e (W.setRow R cs) :=
 ⟨he,h.far ((ae (one R) _).setRow (fun _=>rfl) _) (fun n hn=>by have e':n=R:=hn;omega) (fun n hn=>by cases(show n=R from hn);exact⟨_,_,hr,Jp⟩),hk.new ((ae (one R) _).setRow (fun _=>rfl) _) hR⟩
theorem abe(t:fD)(n:Nat)(x y:vd):(t.put n x).put n y=t.put n y:=by
 unfold fD.put;simp only
 congr 1
 funext i
 split<;>rfl
theorem jS.fits{v:rp}(h:jS base V (v.o,v.hs) o):gH V v.o v.hs/\v.o.dS v.hs=o:=⟨h.fit,h.is⟩
theorem Pk(h:cW xw a U T t)(hi:i<6)(hd:(t.tab i).does=3){k:Int}(hk:k<1000000)(hf:gy k t)(hl:t.cX.length<1000000) :
  Calls prog 43 #[.pointer (some ⟨T,0,none⟩),.int .i64 i,.pointer (some ⟨T,17+i*45,none⟩)] U (QL xw a U T (iT t i)):=by
 have hd0:(t.tab i).does≠0:=ab;obtain⟨c1,c2,c3,c4,c5,c6⟩:=EU U (t.tab i).num;obtain⟨W4,hW4⟩:∃W4,W4=CG U (t.tab i).num:=⟨_,rfl⟩;rw[<-hW4]at c1 c2 c3 c4 c5 c6;have h4:=h.dh c1;obtain⟨v, -, v1, -, -, v4⟩:=h4.at hi;obtain⟨v4a,v4b⟩:=(v4 hd0).fits;have HV1:=O v1;have QK:=O (Te h (t.tab i).num hW4 v.o v.hs v4a);rw[v4b]at QK;have oz:=h.lt;obtain⟨_, -, -, n0, -, -⟩:=h.at hi
 have HN0:=O (show(U.alloc (.cells bR 30)).rangeAt T (17+i*45+26) (lj (t.tab i).num)from p_ n0 ((ae aR U).alloc _) id);have Oq:=O hW4;have YA:=O hk;have CH:=O hf;have HL:=O hl;have HD:=O hd;have HI:=O hi;have HA:=O h.fr.size
 have Er:=O (show((U.alloc (.cells bR 30)).alloc (.cells (AE (.pointer none) (fun _ _=>0)).toArray 75)).heap[U.heap.size+1]?=some (.cells (AE (.pointer none) (fun _ _=>0)).toArray 75 (0,0))from by
  have:=aB (U.alloc (.cells bR 30)) (.cells (AE (.pointer none) (fun _ _=>0)).toArray 75);simpa using this)
 obtain⟨f,NN⟩:∃f,f=(t.tab i).num:=⟨_,rfl⟩;rw[<-NN]at HN0 QK Oq;have HF:=O NN;clear h h4 v1 v4 v4a v4b n0 c1 c2 c3 c4 c5 c6 hW4 hk hf hl hd hd0 NN;unfold CG at Oq;go_enter func43,ntmps43
 go_wp2_with (first|((with_reducible refine cY 18 ?_);refine aU rfl 70 (.tmp 17) rfl T (17+i*45+26) rfl (lj f) _ HN0.o underlying70 rfl af ?_;refine wpList_buildTo rfl 75 _ rfl (some 19) rfl [(1,.agg (lj f).toArray)] (by simp only[eC,cA,dn];rfl) (AE (.pointer none) f).toArray (Xr f) ?_;refine jb rfl 75 rfl (some 9) rfl (AE (.pointer none) (fun _ _=>0)).toArray Xs (U.heap.size+1) aQ ?_;refine aE rfl 75 (.tmp 9) (.tmp 19) rfl (U.heap.size+1) (AE (.pointer none) f).toArray rfl rfl 75 (AE (.pointer none) (fun _ _=>0)).toArray Er.o Xt rfl (abc f) ?_;change wpList _ _ _ _ _ (AF U f);have MX:=Hv U f;generalize AF U f=W2 at *)|((with_reducible refine cY 24 ?_);rw[<-Oq.o];refine aU rfl 41 (.tmp 23) rfl T (17+i*45+1) rfl v.o.cells _ HV1.o underlying41 rfl af ?_)|fail)
 refine QK.o.mono ?_;rintro e u⟨rfl,hu⟩;clear MX Oq HV1 QK Er HN0;obtain⟨v2, -, m1, -, -, m4⟩:=hu.tabs.at HI.o;obtain⟨m4a,m4b⟩:=(m4 (by rw[HD.o];decide)).fits;obtain⟨va,hcs⟩:=Pj hu v2.o v2.hs m4a;rw[m4b]at hcs;have HV2:=O m1;have xr:=O hcs;clear hu m1 m4 m4a m4b hcs
 go_wp2_with (first|((with_reducible refine cY 30 ?_);refine aU rfl 41 (.tmp 29) rfl T (17+i*45+1) rfl v2.o.cells _ HV2.o underlying41 rfl af ?_)|fail)
 refine xr.o.mono ?_;rintro e u2⟨rfl,nv⟩;obtain⟨vb,d1,d2,⟨a1,n1,b1,rfl⟩,⟨a2,n2,b2,rfl⟩,hce⟩:=Xu rfl nv;have HCE:=O hce;have tW:=O nv;clear nv hce HV2 xr;go_wp2_with fail
 refine HCE.o.mono ?_;rintro e u3⟨rfl,zV⟩;have SE:=O (tW.o.tabs.dh zV);have r3:=tW.o.rest.dh zV;have Vq:=O r3.rep;have SS:=O r3.kept;clear d1 d2 zV r3 HCE tW;rw[HF.o];clear HF;obtain⟨R,hR⟩:∃R,R=U.heap.size:=⟨_,rfl⟩;have YD:=O (show U.heap.size<=R from ab);have YE:=O (show a.heap.size<=R by have:=HA.o;omega);rw[<-hR]at Vq ⊢;clear hR;have hfi:=CH.o.fails i
 by_cases hv:vA (t.tab i).op t.num=vA (t.tab i).op (t.tab i).num
 ·rw[bf hv];obtain⟨v3, -, k1, -, k3,k4⟩:=SE.o.at HI.o;obtain⟨k4a,k4b⟩:=(k4 (by rw[HD.o];decide)).fits;have vt:=xC u3 v3.o v3.hs k4a;rw[k4b]at vt;have zO:=O vt;have TU:=O k1;clear vt k1 k3 k4 k4a k4b hfi;cases hw:(cJ (t.tab i).op).2
  ·as_aux_lemma =>
    have HE:=O (show iT t i=(ja t i (t.tab i).dI,(t.tab i).dI,true)by unfold iT;rw[az hv,hw];rfl);rw[hw]at zO;clear hv hw;go_wp2_with (first|((with_reducible refine cY 66 ?_);refine aU rfl 41 (.tmp 65) rfl T (17+i*45+1) rfl v3.o.cells _ TU.o underlying41 rfl af ?_)|fail)
    refine zO.o.mono ?_;rintro e u4⟨rfl,C4⟩;have ht4:=SE.o.dh C4;obtain⟨-, -, -, -, k3, -⟩:=ht4.at HI.o;have HV4:=O k3;have HEN:=O (ES ht4 HI.o (t.tab i).dI (by rw[HD.o];decide) HL.o);have Yj:=O (C4.keep Vq.o id);have TA:=O (SS.o.trans (eG C4));clear C4 ht4 k3 zO TU SE Vq SS;generalize (t.tab i).dI=rr at *
    go_wp2_with (first|((with_reducible refine cY 99 ?_);refine aU rfl 30 (.tmp 98) rfl T (17+i*45+42) rfl (o_ rr) _ HV4.o underlying30 rfl af ?_)|fail)
    refine HEN.o.mono ?_;rintro e u5⟨rfl,z1,z2⟩;have M7:=O (z2.block Yj.o sg);have QM:=O z1;have HZ2:=O (TA.o.trans z2);clear z1 z2;go_wp2_with (first|((with_reducible refine cV 30 ?_);refine aE rfl 30 (.tmp 6) (.tmp 101) rfl R #[.int .i64 rr.what,.string rr.head,.int .i64 rr.cert] rfl rfl _ bR M7.o (bd _ rfl) rfl ct ?_)|fail)
    refine aS (ju bC _ _ R 30 #[.int .i64 rr.what,.string rr.head,.int .i64 rr.cert] (0,0) _ rfl (aX _ R _ _ _ _ M7.o) underlying30 rfl (bd _ rfl)) rfl ?_;rw[HE.o];exact C8 QM.o HZ2.o YD.o YE.o M7.o _ rfl
  ·as_aux_lemma =>
    have HE:=O (show iT t i=(ja {t with w:=j8 t.w (t.tab i).seen (t.tab i).op.part (cJ (t.tab i).op).1,num:=Av (t.tab i).op t.num} i (t.tab i).dI,(t.tab i).dI,true)by unfold iT;rw[az hv,hw];rfl);rw[hw]at zO;clear hv hw;go_wp2_with (first|((with_reducible refine cY 66 ?_);refine aU rfl 41 (.tmp 65) rfl T (17+i*45+1) rfl v3.o.cells _ TU.o underlying41 rfl af ?_)|fail)
    refine zO.o.mono ?_;rintro e u4⟨rfl,C4⟩;have ht4:=SE.o.dh C4.drew;have Yj:=O (show u4.drew.heap[R]?=some (.cells bR 30 (0,0))from C4.drew.keep Vq.o id);have TA:=O (SS.o.trans (eG C4.drew));obtain⟨B,g,sv,sb,p1,p2,p3,p4⟩:=ht4.ex;have qz:=(p4 i HI.o).2 (Or.inr HD.o);have CY:(g i).o.aL.part=(t.tab i).op.part:=by rw[<-((p4 i HI.o).1 (by rw[HD.o];decide)).is];rfl
    have Q5:=O (cW.main p1 p2 p3 p4 ht4.low ht4.fr (x':=j8 t.w (t.tab i).seen (t.tab i).op.part (cJ (t.tab i).op).1) (fun pv hw=>by
     obtain⟨qv,hq⟩:=p2.at (i:=i) (B:=sb i) (x:=(t.tab i).seen) (by
      have:=HI.o;unfold oD;rw[aq ab,aq ab,az ⟨HI.o,Or.inr HD.o⟩])
     exact S' hw hq (CH.o.seen i (Or.inr HD.o)) (t.tab i).op.part (SU _)))
    have m0:=p1.main;have m25:u4.drew.cell? ⟨T,17+i*45+25,none⟩=some (.pointer (some ⟨sb i,0,none⟩)):=by rw[<-qz];exact p1.tab i HI.o 25 _ rfl
    have m2:u4.drew.cell? ⟨T,17+i*45+1+1,none⟩=some (.int .i64 (t.tab i).op.part):=by rw[<-CY];exact p1.tab i HI.o 2 _ rfl
    have xi:=O qz;have HPT:=O CY;clear C4 ht4 p1 p2 p3 p4 qz CY zO TU SE Vq SS;obtain⟨cn,hcn⟩:∃cn:Nat,cn=(cJ (t.tab i).op).1:=⟨_,rfl⟩;obtain⟨pt,CY⟩:∃pt:Int,pt=(t.tab i).op.part:=⟨_,rfl⟩;have HCN:=O hcn;have HPN:=O CY;rw[<-hcn, <-CY]at Q5;rw[<-CY]at m2;rw[<-hcn];clear hcn CY;go_wp2_with fail
    refine wp_region_held_drew (S:=(fun V=>V.cell? ⟨T,0,none⟩=some (.pointer (some ⟨B,0,none⟩))/\V.cell? ⟨T,17+i*45+25,none⟩=some (.pointer (some ⟨sb i,0,none⟩))/\V.cell? ⟨T,17+i*45+1+1,none⟩=some (.int .i64 pt))) af (by exact⟨m0,m25,m2⟩) ?_;intro zc;refine tkN 0 71 rfl ?_
    refine tkN 1 72 rfl ?_
    refine tkN 2 73 rfl ?_
    refine tkN 3 74 rfl ?_
    refine tkN 4 75 rfl ?_
    refine tkN 5 76 rfl ?_
    refine tkN 6 77 rfl ?_
    refine tkN 7 78 rfl ?_
    refine tkN 8 79 rfl ?_
    refine tkN 9 80 rfl ?_
    refine tkN 10 81 rfl ?_
    refine tkN 11 82 rfl ?_
    refine tkN 12 83 rfl ?_
    refine tkN 13 84 rfl ?_
    refine tkN 14 85 rfl ?_
    refine eL 15 rfl fun K hK=>?_;go_simp;refine Q5.o.mono ?_;rintro e u5⟨rfl,z1,z2,z3⟩;have QM:=O z1;have M7:=O ((gR.OP z3).block Yj.o sg);have HK5:=O (TA.o.trans (gR.OP z3))
    have xz:u5.cell? ⟨T,0,none⟩=some (.pointer (some ⟨B,0,none⟩))/\u5.cell? ⟨T,17+i*45+25,none⟩=some (.pointer (some ⟨sb i,0,none⟩))/\u5.cell? ⟨T,17+i*45+1+1,none⟩=some (.int .i64 pt):=⟨z2.main,by rw[<-xi.o];exact z2.tab i HI.o 25 _ rfl,by rw[HPN.o, <-HPT.o];exact z2.tab i HI.o 2 _ rfl⟩;refine hK.out _ _ xz ?_;intro Am;clear hK K zc xz Am z1 z2 z3 m0 m25 m2 Q5 Yj TA;refine wpAnyH_done af ?_ _
    have ht5:=QM.o;obtain⟨v6, -, k1, -, -, k4⟩:=ht5.at HI.o;obtain⟨k4a,k4b⟩:=(k4 (show((t.tab i).does≠0)by rw[HD.o];decide)).fits;have hkp:Pf T (fun V=>V.heap[R]?=some (.cells bR 30 (0,0))/\gR U V):=fun V V' c hS hc hF=>⟨hF.keep hS.1 (fun e=>by
     cases(show R=T from e);have:=hS.1;rw[hc]at this;cases this),hS.2.tabs hc hF⟩
    have hnu:=xa u5 T v6.o v6.hs _ #[] call90 (Xn xw a T {t with w:=j8 t.w (t.tab i).seen pt cn} (fun V=>V.heap[R]?=some (.cells bR 30 (0,0))/\gR U V)) ⟨by rw[Ta];exact ht5,M7.o,HK5.o⟩ (fun d V V' hV hf=>hV.dh hkp hf) (aa' hkp (fun p i=>⟨(CH.o.num p i).1,by have h1:=(CH.o.num p i).2;have h2:=YA.o;show t.num p i<_;omega⟩)) k4a;rw[show v6.o.dS v6.hs=(t.tab i).op from k4b]at hnu;have HNU:=O hnu
    have HV6:=O k1;clear ht5 k1 k4 k4a k4b hkp hnu QM M7 HK5;go_wp2_with (first|((with_reducible refine cY 91 ?_);refine aU rfl 41 (.tmp 90) rfl T (17+i*45+1) rfl v6.o.cells _ HV6.o underlying41 rfl af ?_)|fail)
    refine HNU.o.mono ?_;rintro e u6⟨rfl,hu6⟩;have ht6:=hu6.tabs;obtain⟨-, -, -, -, k3, -⟩:=ht6.at HI.o;have HV4:=O (show u6.rangeAt T (17+i*45+42) (o_ (t.tab i).dI)from k3);have hen:=ES ht6 HI.o (t.tab i).dI (show(t.tab i).does≠0 by rw[HD.o];decide) HL.o;have Yj:=O hu6.rest.1;have TA:=O hu6.rest.2
    have HEE:=O (show({t with w:=j8 t.w (t.tab i).seen (t.tab i).op.part (cJ (t.tab i).op).1,num:=Av (t.tab i).op t.num}:fD)={({t with w:=j8 t.w (t.tab i).seen pt cn}:fD)with num:=xc (mo (t.tab i).op) t.num}from by rw[HPN.o,HCN.o];rfl);rw[HEE.o]at HE;have HEN:=O hen;clear hu6 ht6 k3 hen HNU HV6 HEE;generalize (t.tab i).dI=rr at *
    go_wp2_with (first|((with_reducible refine cY 99 ?_);refine aU rfl 30 (.tmp 98) rfl T (17+i*45+42) rfl (o_ rr) _ HV4.o underlying30 rfl af ?_)|fail)
    refine HEN.o.mono ?_;rintro e u5⟨rfl,z1,z2⟩;have M7:=O (z2.block Yj.o sg);have QM:=O z1;have HZ2:=O (TA.o.trans z2);clear z1 z2;go_wp2_with (first|((with_reducible refine cV 30 ?_);refine aE rfl 30 (.tmp 6) (.tmp 101) rfl R #[.int .i64 rr.what,.string rr.head,.int .i64 rr.cert] rfl rfl _ bR M7.o (bd _ rfl) rfl ct ?_)|fail)
    refine aS (ju bC _ _ R 30 #[.int .i64 rr.what,.string rr.head,.int .i64 rr.cert] (0,0) _ rfl (aX _ R _ _ _ _ M7.o) underlying30 rfl (bd _ rfl)) rfl ?_;rw[HE.o];exact C8 QM.o HZ2.o YD.o YE.o M7.o _ rfl
 ·rw[bh hv];have q0:(0:Int)<=((t.tab i).fails:Int):=ab;have q3:((t.tab i).fails:Int)<=3:=ab;have hfz:=SE.o;obtain⟨B,g,sv,sb,p1, -⟩:=hfz.ex;have c23:u3.cell? ⟨T,17+i*45+23,none⟩=some (.int .i64 (t.tab i).fails):=p1.tab i HI.o 23 _ rfl;have f23:=p1.free (17+i*45+23)
  obtain⟨s1,s2⟩:=hfz.Xo HI.o (j:=23) ag (.int .i64 ((t.tab i).fails+1:Nat)) (x:={t.tab i with fails:=(t.tab i).fails+1}) (fun _=>rfl) rfl id (fun h=>⟨h,rfl⟩);rw[show(((t.tab i).fails+1:Nat):Int)=((t.tab i).fails:Int)+1 from ab]at s1 s2;obtain⟨cT,Ju⟩:=hfz.kind;have hRT:R≠T:=fun e=>by
   have:=Vq.o;rw[e,Ju]at this;cases this
  have M7:=O (s2.keep Vq.o (fun e=>hRT e));have HK5:=O (SS.o.tabs Ju s2);have HS1:=O s1;clear hfz p1 s1 s2 Ju SE Vq SS;by_cases h3:((t.tab i).fails:Int)+1<=3
  ·as_aux_lemma =>
    have HE:=O (show iT t i=(t.put i {t.tab i with fails:=(t.tab i).fails+1,does:=1},rep 0,false)by unfold iT;rw[aq hv,az ab]);obtain⟨b1,b2⟩:=HS1.o.Xo HI.o (j:=0) ag (.int .i64 1) (x:={t.tab i with fails:=(t.tab i).fails+1,does:=1}) (fun _=>by rw[gi];rfl) (by rw[gi]) (fun _=>by rw[gi];show(t.tab i).does≠0;rw[HD.o];decide) (fun h=>by simp at h);rw[abe,show 17+i*45+0=17+i*45 from rfl]at b1
    rw[show 17+i*45+0=17+i*45 from rfl]at b2;have Y0:=O b1;obtain⟨cT5,akN⟩:=HS1.o.kind;have JT:=O (b2.keep M7.o (fun e=>hRT e));have HK6:=O (HK5.o.tabs akN b2);obtain⟨B5,g5,sv5,sb5,p5, -⟩:=HS1.o.ex;have c0:=p5.tab i HI.o 0 _ rfl;rw[show 17+i*45+0=17+i*45 from rfl]at c0;have f0:=p5.free (17+i*45);clear hv b1 b2 akN p5 HS1 M7 HK5
    go_wp2_with (first|((with_reducible refine cV 30 ?_);refine aE rfl 30 (.tmp 6) (.tmp 53) rfl R #[.int .i64 0,.string ⟨#[]⟩,.int .i64 0] rfl rfl _ bR JT.o (bd _ rfl) rfl ct ?_)|fail)
    refine aS (ju bC _ _ R 30 #[.int .i64 0,.string ⟨#[]⟩,.int .i64 0] (0,0) _ rfl (aX _ R _ _ _ _ JT.o) underlying30 rfl (bd _ rfl)) rfl ?_;rw[HE.o];exact C8 Y0.o HK6.o YD.o YE.o JT.o _ rfl
  ·as_aux_lemma =>
    have HE:=O (show iT t i=(ja (t.put i {t.tab i with fails:=(t.tab i).fails+1}) i (rep 6),rep 6,true)by unfold iT;rw[aq hv,aq ab]);have HEN:=O (ES HS1.o HI.o (rep 6) (by rw[gi];show(t.tab i).does≠0;rw[HD.o];decide) HL.o);clear hv;go_wp2_with fail
    refine HEN.o.mono ?_;rintro e u5⟨rfl,z1,z2⟩;have JT:=O (z2.block M7.o sg);have QM:=O z1;have HZ2:=O (HK5.o.trans z2);clear z1 z2;go_wp2_with (first|((with_reducible refine cV 30 ?_);refine aE rfl 30 (.tmp 6) (.tmp 59) rfl R #[.int .i64 6,.string ⟨#[]⟩,.int .i64 0] rfl rfl _ bR JT.o (bd _ rfl) rfl ct ?_)|fail)
    refine aS (ju bC _ _ R 30 #[.int .i64 6,.string ⟨#[]⟩,.int .i64 0] (0,0) _ rfl (aX _ R _ _ _ _ JT.o) underlying30 rfl (bd _ rfl)) rfl ?_;rw[HE.o];exact C8 QM.o HZ2.o YD.o YE.o JT.o _ rfl
end
