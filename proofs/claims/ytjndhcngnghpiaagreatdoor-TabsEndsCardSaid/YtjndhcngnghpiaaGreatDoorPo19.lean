/- Lemmas for the law's walk. -/
import Derived.Test.YtjndhcngnghpiaaGreatDoorPo28
import Derived.Great.Walk
set_option maxRecDepth 100000
set_option maxHeartbeats 16000000
set_option linter.unusedSimpArgs false
namespace Go.Proofs.YtjndhcngnghpiaaGreatDoor
open Go.Proofs.Tryz
open Go.RowKit
variable {o:kn} {d r:List (Nat×Nat)} {c:Nat×Nat} {p i base A B bs:Nat} {f:Nat->Nat->Int} {S:World->Prop} {v va:Value} {l:List Int} {W V:World}
theorem KY(o:kn):(mQ o).Pairwise (fun x y=>x.2<y.2):=by
 unfold mQ;cases h0:(eN o).1.testBit 0<;>cases h1:(eN o).1.testBit 1<;>cases h2:(eN o).1.testBit 2<;>cases h3:(eN o).1.testBit 3<;>simp[h0,h1,h2,h3]
theorem KZ(o:kn):(mQ o).length<=4:=List.length_filterMap_le _ [0,1,2,3]
theorem Vt(h:mQ o=d++c :: r):c∉d:=fun hc=>by
 have hp:=KY o;rw[h,List.pairwise_append]at hp;have:=hp.2.2 c hc c (cR ..);omega
theorem Hr(h:mQ o=d++c :: r):c.1<4/\c.2<4:=by
 have hm:(c.1,c.2)∈mQ o:=by rw[h];simp
 obtain⟨h1,h2,h3⟩:=U6.1 hm;refine⟨?_,h1⟩;rw[h3];split
 ·decide
 ·cases hr:o.right
  ·rw[FT hr]at h2;simp at h2
  ·obtain⟨p0,p4⟩:=ko hr;omega
theorem K_(h:mQ o=d++c :: r):d.length<1000:=by
 have:=KZ o;rw[h]at this;simp at this;omega
def v_(d:List (Nat×Nat))(f:Nat->Nat->Int):Nat->Nat->Int:=fun p i=>if(p,i)∈d then f p i+1 else f p i
theorem Rj(f:Nat->Nat->Int):v_ [] f=f:=by funext p i;simp[v_]
theorem ND(hc:c∉d)(f:Nat->Nat->Int):v_ (d++[c]) f=fun p i=>if(p,i)=c then f p i+1 else v_ d f p i:=by
 funext p i
 unfold v_;by_cases e:(p,i)=c
 ·subst e;simp
 ·by_cases m:(p,i)∈d<;>simp[e,m]
theorem Vu(f:Nat->Nat->Int)(hp:p<4)(hi:i<4)(v:Int):(kM f).set (p*4+i) (.int .i64 v)=kM (fun q j=>if(q,j)=(p,i)then v else f q j):=by
 rcases(show p=0\/p=1\/p=2\/p=3 from ab)with rfl|rfl|rfl|rfl<;>rcases(show i=0\/i=1\/i=2\/i=3 from ab)with rfl|rfl|rfl|rfl<;>rfl
def zE(d:List (Nat×Nat))(f:Nat->Nat->Int):List Int:=d.map fun c=>f c.1 c.2
theorem Rk(d:List (Nat×Nat))(c:Nat×Nat)(f:Nat->Nat->Int):zE (d++[c]) f=zE d f++[f c.1 c.2]:=by unfold zE;simp
theorem wa(d:List (Nat×Nat))(f:Nat->Nat->Int):(zE d f).length=d.length:=by unfold zE;simp
section
variable {xw : Option (Nat × d_)} {a U U' : World} {T : Nat} {t : gB}
theorem di.Vv(h:di xw a U T t)(hp:p<4)(hi:i<4):U.cell? ⟨T,1+p*4+i,none⟩=some (.int .i64 (t.num p i)):=by
 obtain⟨_,_,_,_,g1,_⟩:=h.ex;rw[Nat.add_assoc];exact g1.num _ _ (O2 t.num hp hi)
theorem di.lt(h:di xw a U T t):T<U.heap.size:=by
 obtain⟨_,_,_,_,g1,_⟩:=h.ex;exact g1.lt
theorem di.kind(h:di xw a U T t):∃c,U.heap[T]?=some (.cells c 78 (0,0)):=by
 obtain⟨_,_,_,_,g1,_⟩:=h.ex;obtain⟨c,hc,_⟩:=g1.eG;exact⟨c,hc⟩
theorem di.bump(h:di xw a U T t)(hp:p<4)(hi:i<4)(v:Int):di xw a (U.setCell ⟨T,1+p*4+i,none⟩ (.int .i64 v)) T {t with num:=fun q j=>if(q,j)=(p,i)then v else t.num q j}:=by
 obtain⟨B,g,sv,sb,h1,h2,h3,h4⟩:=h.ex;have q:=h1.ada hp hi v (Vu t.num hp hi v);rw[<-Nat.add_assoc]at q;exact kp (t':={t with num:=fun q j=>if(q,j)=(p,i)then v else t.num q j}) h1 h2 h3 h4 h.low h.fr q rfl (fun _ _ hp=>hp) (fun j hj=>⟨fun hd=>Or.inl ⟨rfl,rfl,rfl,hd⟩,(h4 j hj).2⟩)
structure zF (xw:Option (Nat×d_)) (a:World) (T:Nat) (t:gB) (base A:Nat) (f:Nat->Nat->Int) (S:World->Prop) (d:List (Nat×Nat)) (V:World):Prop where
 tabs:di xw a V T t
 rows:∃v,V.heap[A]?=some (.cells #[v] 109 (0,0))/\OwnRows base 3 1 V v ((zE d f).map vd)
 low:a.heap.size<=base/\base<=V.heap.size/\a.heap.size<=A
 rest:S V
def yh(base A:Nat)(S:World->Prop):Prop:=∀V V' Z,S V->Fr Z V V'->(∀n,Z n->n=A\/(base<=n/\∃c,V.heap[n]?=some (.cells c 3 (0,0))))->S V'
theorem zF.dt(hS:yh base A S)(h:zF xw a T t base A f S d U)(hf:Fr aW U U'):zF xw a T t base A f S d U':=by
 obtain⟨v,h1,h2⟩:=h.rows;exact⟨h.tabs.dt hf,⟨v,hf.keep h1 id,h2.fr hf (fun _ _ h=>h)⟩,⟨h.low.1,aE h.low.2.1 hf.size,h.low.2.2⟩,hS _ _ _ h.rest hf (fun _ h=>absurd h id)⟩
theorem zF.add{e:Ending}(hS:yh base A S)(h:zF xw a T t base A f S d U)(h1:U.heap[A]?=some (.cells #[v] 109 (0,0)))(h2:OwnRows base 3 1 U v ((zE d f).map vd))(hp:Hn base U A v (zE d f++[f c.1 c.2]) e U') :
  e=.returned (.tuple #[])/\zF xw a T t base A f S (d++[c]) U'/\∀(n:Nat) (k:bS),U.heap[n]?=some (.cells k 33 (0,0))->U'.heap[n]?=some (.cells k 33 (0,0)):=by
 obtain⟨he,v',p1,p2,p3⟩:=hp;have hz:∀n,(n=A\/own v n)->n=A\/(base<=n/\∃c,U.heap[n]?=some (.cells c 3 (0,0))):=fun n hn=>by
  rcases hn with hn|hn
  ·exact Or.inl hn
  ·exact Or.inr ⟨h2.block n hn,h2.AY hn⟩
 refine⟨he,⟨h.tabs.far p3 (fun n hn=>?_) (fun n hn=>?_),⟨v',p1,by rw[Rk];exact p2⟩,⟨h.low.1,aE h.low.2.1 p3.size,h.low.2.2⟩,hS _ _ _ h.rest p3 hz⟩,fun n k hn=>p3.keep hn (fun hh=>?_)⟩
 ·rcases hz n hn with rfl|⟨q,_⟩
  ·exact h.low.2.2
  ·exact aE h.low.1 q
 ·rcases hz n hn with rfl|⟨_,c,q⟩
  ·exact⟨_,_,h1,Vn⟩
  ·exact⟨_,_,q,Y_⟩
 ·rcases hz n hh with rfl|⟨_,c,q⟩
  ·rw[h1]at hn;cases hn
  ·rw[q]at hn;cases hn
theorem Vw(hS:yh base A S):uA (zF xw a T t base A t.num S) o T 50 #[.pointer (some ⟨A,0,none⟩)]:=by
 intro d c r hd V hV;obtain⟨v,h1,h2⟩:=hV.rows;obtain⟨c1,c2⟩:=Hr hd;refine(adF h1 (hV.tabs.Vv c1 c2) h2 hV.low.2.1 (by rw[wa];exact K_ hd)).mono ?_;intro e w' hp;exact hV.add hS h1 h2 hp
theorem Vx{W0:Nat}(hS:yh base A S)(hW:∀V,S V->∃cs,V.heap[W0]?=some (.cells cs 78 (0,0))/\∀q i,q<4->i<4->cs[1+q*4+i]?=some (.int .i64 (f q i))) :
  uA (zF xw a T t base A f S) o W0 51 #[.pointer (some ⟨A,0,none⟩)]:=by
 intro d c r hd V hV;obtain⟨v,h1,h2⟩:=hV.rows;obtain⟨c1,c2⟩:=Hr hd;obtain⟨cs,w1,w2⟩:=hW V hV.rest;have hc:V.cell? ⟨W0,1+c.1*4+c.2,none⟩=some (.int .i64 (f c.1 c.2)):=by
  simp only[World.cell?,w1];exact w2 _ _ c1 c2
 refine(adG h1 hc h2 hV.low.2.1 (by rw[wa];exact K_ hd)).mono ?_;intro e w' hp;exact hV.add hS h1 h2 hp
structure Vy (xw:Option (Nat×d_)) (a:World) (T:Nat) (t:gB) (S:World->Prop) (d:List (Nat×Nat)) (V:World):Prop where
 tabs:di xw a V T {t with num:=v_ d t.num}
 rest:S V
def NF(T:Nat)(S:World->Prop):Prop:=∀V V' c,S V->V.heap[T]?=some (.cells c 78 (0,0))->Fr (one T) V V'->S V'
theorem Vy.dt(hS:NF T S)(h:Vy xw a T t S d U)(hf:Fr aW U U'):Vy xw a T t S d U':=by
 obtain⟨c,hc⟩:=h.tabs.kind;exact⟨h.tabs.dt hf,hS _ _ _ h.rest hc (hf.mono fun _ _ h=>absurd h id)⟩
theorem Zd(hS:NF T S)(hn:∀p i,0<=t.num p i/\t.num p i<1000000):uA (Vy xw a T t S) o T 55 #[]:=by
 intro d c r hd V hV;obtain⟨c1,c2⟩:=Hr hd;have aiA:=Vt hd;have hv:v_ d t.num c.1 c.2=t.num c.1 c.2:=ar aiA;have hc:=hV.tabs.Vv c1 c2;rw[show({t with num:=v_ d t.num}:gB).num c.1 c.2=t.num c.1 c.2 from hv]at hc;obtain⟨k,hk⟩:=hV.tabs.kind;refine(adD V T (1+c.1*4+c.2) hc (by simp[World.frozen?,hk]) (hn _ _).1 (hn _ _).2).mono ?_;rintro e w'⟨rfl,rfl⟩
 have hF:Fr (one T) V (V.setCell ⟨T,1+c.1*4+c.2,none⟩ (.int .i64 (t.num c.1 c.2+1))):=(ae (one T) V).setCell (p:=⟨T,1+c.1*4+c.2,none⟩) (fun _=>rfl) _;refine⟨rfl,⟨?_,hS _ _ _ hV.rest hk hF⟩,fun n q hq=>hF.keep hq (fun e=>?_)⟩
 ·have:=hV.tabs.bump c1 c2 (t.num c.1 c.2+1);rw[ND aiA];have ee:(fun q j=>if(q,j)=(c.1,c.2)then t.num c.1 c.2+1 else v_ d t.num q j)=(fun p i=>if(p,i)=c then t.num p i+1 else v_ d t.num p i):=by
   funext q j
   by_cases e:(q,j)=c
   ·have e':(q,j)=(c.1,c.2):=e;rw[aA e,aA e'];have e1:q=c.1:=by rw[<-e]
    have e2:j=c.2:=by rw[<-e]
    rw[e1,e2]
   ·have e':¬(q,j)=(c.1,c.2):=e;rw[ar e,ar e']
  exact ee▸this
 ·cases(show n=T from e);rw[hk]at hq;cases hq
theorem fU.same{g:Nat->qo}{sv:Value}{t':gB}(h:fU U T B g sv t)(hn:t'.num=t.num)(ht:∀n,n<6->mN (t'.tab n) (g n)=mN (t.tab n) (g n))(hs:t'.steps=t.steps):fU U T B g sv t' :=
 ⟨h.eG,h.main,by rw[hn];exact h.num,fun n hl=>by rw[ht n hl];exact h.tab n hl,by rw[hs];exact h.steps,h.st⟩
theorem di.main{B:Nat}{g:Nat->qo}{sv:Value}{sb:Nat->Nat}{f:FuncId}{args:bS}{R:Ending->Prop}{x':d_}(h1:fU U T B g sv t)(h2:xp a.heap.size U (oY xw B sb t))(h3:qy a.heap.size U sv t.fO)
  (h4:∀n,n<6->((t.tab n).does≠0->jY a.heap.size U ((g n).o,(g n).hs) (t.tab n).op)/\((t.tab n).does=2\/(t.tab n).does=3->(g n).sp=.pointer (some ⟨sb n,0,none⟩)))(kR:a.heap.size<=T)(cN:Fr aW a U)
  (hc:∀pv,df a.heap.size U B pv t.w->aC f args U fun e w'=>R e/\dy a.heap.size U B pv x' w') :
  aC f args U fun e w'=>R e/\di xw a w' T {t with w:=x'}/\fU w' T B g sv t/\Kept U w':=by
 refine(xp.act h2 cN (ay _) (i:=6) (B:=B) (x:=t.w) rfl hc).mono ?_;rintro e w'⟨r1,r2,r3,r4⟩;refine⟨r1,⟨⟨B,g,sv,sb,(r4.eG h1).same rfl (fun _ _=>rfl) rfl,r2.sub (fun i p hp=>?_),h3.kept r4,fun n hn=>⟨fun hd=>((h4 n hn).1 hd).kept r4,(h4 n hn).2⟩⟩,kR,r3⟩,r4.eG h1,r4⟩;by_cases e:i=6
 ·subst e;exact hp
 ·rw[ar e];unfold oY at hp ⊢;rw[ar e]at hp ⊢;exact hp
theorem di.seen{B:Nat}{g:Nat->qo}{sv:Value}{sb:Nat->Nat}{f:FuncId}{args:bS}{R:Ending->Prop}{x':d_}{i:Nat}(hi:i<6)(hd:(t.tab i).does=2\/(t.tab i).does=3)(h1:fU U T B g sv t)(h2:xp a.heap.size U (oY xw B sb t))(h3:qy a.heap.size U sv t.fO)
  (h4:∀n,n<6->((t.tab n).does≠0->jY a.heap.size U ((g n).o,(g n).hs) (t.tab n).op)/\((t.tab n).does=2\/(t.tab n).does=3->(g n).sp=.pointer (some ⟨sb n,0,none⟩)))(_hlow:a.heap.size<=T)(cN:Fr aW a U)
  (hc:∀pv,df a.heap.size U (sb i) pv (t.tab i).seen->aC f args U fun e w'=>R e/\dy a.heap.size U (sb i) pv x' w') :
  aC f args U fun e w'=>R e/\(fU w' T B g sv t/\xp a.heap.size w' (oY xw B sb (t.put i {t.tab i with seen:=x'}))/\qy a.heap.size w' sv t.fO/\(∀n,n<6->((t.tab n).does≠0->jY a.heap.size w' ((g n).o,(g n).hs) (t.tab n).op))/\Fr aW a w')/\Kept U w':=by
 have hw:oY xw B sb t i=some (sb i,(t.tab i).seen):=by
  unfold oY;rw[ar ab,ar ab,aA ⟨hi,hd⟩]
 refine(xp.act h2 cN (ay _) hw hc).mono ?_;rintro e w'⟨r1,r2,r3,r4⟩;refine⟨r1,⟨r4.eG h1,r2.sub (fun j p hp=>?_),h3.kept r4,fun n hn hd=>((h4 n hn).1 hd).kept r4,r3⟩,r4⟩;by_cases e:j=i
 ·subst e;rw[aA rfl];unfold oY at hp;rw[ar ab,ar ab]at hp;split at hp
  ·rw[<-hp];simp[gB.put]
  ·cases hp
 ·rw[ar e];unfold oY at hp ⊢;by_cases e6:j=6
  ·rw[aA e6]at hp ⊢;exact hp
  ·rw[ar e6]at hp ⊢;simpa[gB.put,e]using hp
theorem di.Vz(h:di xw a U T t)(hi:i<6){j:Nat}(hj:j<45)(v:Value){x:ux}(hx:∀g,(mN (t.tab i) g).set j v=mN x g)(ho:x.op=(t.tab i).op)(h0:x.does≠0->(t.tab i).does≠0)(hs:x.does=2\/x.does=3->((t.tab i).does=2\/(t.tab i).does=3)/\x.seen=(t.tab i).seen) :
  di xw a (U.setCell ⟨T,17+i*45+j,none⟩ v) T (t.put i x)/\Fr (one T) U (U.setCell ⟨T,17+i*45+j,none⟩ v):=by
 obtain⟨B,g,sv,sb,h1,h2,h3,h4⟩:=h.ex;have q:=h1.B' hi hj v (hx (g i));refine⟨kp (t':=t.put i x) h1 h2 h3 h4 h.low h.fr q rfl (Nh rfl fun n hn hd=>?_) (fun n hn=>?_),q.2⟩
 ·by_cases e:n=i
  ·subst e;simp only[gB.put,dY]at hd ⊢;exact hs hd
  ·simp only[gB.put,ar e]at hd ⊢;exact⟨hd,trivial⟩
 ·by_cases e:n=i
  ·subst e;simp only[gB.put,dY];exact⟨fun hd=>Or.inl ⟨trivial,trivial,ho,h0 hd⟩,fun hd=>(h4 n hn).2 (hs hd).1⟩
  ·simp only[gB.put,ar e];exact⟨fun hd=>Or.inl ⟨trivial,trivial,trivial,hd⟩,(h4 n hn).2⟩
theorem di.at(h:di xw a U T t)(hi:i<6):∃v:qo,U.rangeAt T (17+i*45) (mN (t.tab i) v)/\U.rangeAt T (17+i*45+1) v.o.cells/\U.rangeAt T (17+i*45+26) (kM (t.tab i).num)/\U.rangeAt T (17+i*45+42) (pW (t.tab i).iI)/\((t.tab i).does≠0->jY a.heap.size U (v.o,v.hs) (t.tab i).op):=by
 obtain⟨B,g,sv,sb,h1,h2,h3,h4⟩:=h.ex;have hr:=h1.tab i hi;refine⟨g i,hr,ka (p:=[.int .i64 (t.tab i).does]) (q:=(g i).o.cells) hr,?_,?_,(h4 i hi).1⟩
 ·have:=ka (p:=.int .i64 (t.tab i).does :: ((g i).o.cells++[.int .i64 (t.tab i).fails,.int .i64 (t.tab i).mM,(g i).sp])) (q:=kM (t.tab i).num) (r:=pW (t.tab i).iI) (U:=U) (b:=T) (o:=17+i*45) hr;exact this
 ·have:=ka (p:=.int .i64 (t.tab i).does :: ((g i).o.cells++(.int .i64 (t.tab i).fails :: .int .i64 (t.tab i).mM :: (g i).sp :: kM (t.tab i).num))) (q:=pW (t.tab i).iI) (r:=[]) (U:=U) (b:=T) (o:=17+i*45) hr;exact this
theorem aaS(h:eb 1 U v (l.map vd))(hl:l≠ []):∃b o c,v=.slice (some ⟨b,o,none⟩) l.length c/\∀j,j<l.length->U.cell? ⟨b,o+j,none⟩=some (.int .i64 (l.getD j 0)):=by
 rcases h.2 with ⟨a',c',e1,e2,e3⟩|⟨bk,o',c,hf,g1,g2,g3,g4⟩
 ·exact absurd (by simpa using e2) hl
 ·rw[aj]at hf;refine⟨bk,o',c,hf,fun j hj=>?_⟩;have:=g4 j (vd (l.getD j 0)) (by simp[List.getElem?_eq_getElem hj,List.getD_eq_getElem?_getD]) 0 _ rfl;simpa using this
theorem adK{v':Value}{l':List Int}(h:eb 1 U v (l.map vd))(h':eb 1 U v' (l'.map vd))(hl:l.length=l'.length)(hs:l.length<1000) :
  aC 52 #[v,v'] U fun e w'=>e=.returned (.bool (decide (l=l')))/\Fr aW U w':=by
 by_cases h0:l=[]
 ·subst h0;have RW:l'=[]:=dF.1 hl.symm;subst RW;obtain⟨a1,c1,e1⟩:=h.form;obtain⟨a2,c2,e2⟩:=h'.form;rw[e1,e2];refine(slices_Equal_int_empty a1 a2 c1 0 c2 U ag).mono ?_;rintro e w'⟨rfl,rfl⟩;exact⟨rfl,ae _ _⟩
 ·have RW:l'≠ []:=fun e=>h0 (dF.1 (by rw[hl,e];rfl));obtain⟨b1,o1,c1,e1,f1⟩:=aaS h h0;obtain⟨b2,o2,c2,e2,f2⟩:=aaS h' RW;rw[e1,e2];refine(slices_Equal_int b1 o1 l.length c1 b2 o2 l'.length c2 l l' U (ay _) (ay _) ab ab f1 f2).mono ?_;rintro e w'⟨rfl,q,rfl⟩;refine⟨?_,(ae aW U).drewN q⟩;rw[List.take_length,List.take_length]
  congr 2
  by_cases e:l=l'<;>simp[e]
end
theorem wpList_buildTo{P:Program}{ops:Array Oper}{rest:List Oper}{o:Oper}{a:Act}{w:World}{Q:Exit->Act->World->Prop}(hg:o.guard=none)(t:TypeId)(parts:Array (Nat×Operand))(ho:o.op=.build t parts)(dst:Option Tmp)(NH:o.dst=dst)
  (vs:List (Nat×Value))(he:(parts.map fun(i,x)=>(i,a.eval x)).toList=vs)(cells:bS)(hf:P.built t vs=some cells)
  (h:wpList P ops Q rest (a.put dst (.agg cells)) w):wpList P ops Q (o :: rest) a w:=by
 subst NH;refine wpList_build hg t parts ho (by rw[he,hf];rfl) ?_;rw[he,hf];exact h
theorem wpList_boxTo{P:Program}{ops:Array Oper}{rest:List Oper}{o:Oper}{a:Act}{w:World}{Q:Exit->Act->World->Prop}(hg:o.guard=none)(t:TypeId)(x:Operand)(ho:o.op=.box t x)(dst:Option Tmp)(NH:o.dst=dst)
  (cells:bS)(hx:a.eval x=.agg cells)
  (h:wpList P ops Q rest (a.put dst (.pointer (some ⟨w.heap.size,0,none⟩))) (w.alloc (.cells cells t))):wpList P ops Q (o :: rest) a w:=by
 refine Great.wpList_runTo hg dst NH (.pointer (some ⟨w.heap.size,0,none⟩)) _ ?_ h;unfold execOp;simp[ho,Instr.box,newVar,newRow,hx,Value.cells,Result.andThen]
theorem kC{P:Program}{ops:Array Oper}{rest:List Oper}{o:Oper}{a:Act}{w:World}{Q:Exit->Act->World->Prop}(hg:o.guard=none)(t:TypeId)(ho:o.op=.alloc t)(dst:Option Tmp)(NH:o.dst=dst)
  (cells:bS)(hi:(P.info? t).map (·.zero)=some (some (.agg cells)))(N:Nat)(hN:w.heap.size=N)
  (h:wpList P ops Q rest (a.put dst (.pointer (some ⟨N,0,none⟩))) (w.alloc (.cells cells t))):wpList P ops Q (o :: rest) a w:=by
 subst hN;refine Great.wpList_runTo hg dst NH (.pointer (some ⟨w.heap.size,0,none⟩)) _ ?_ h;cases hie:P.info? t with
 |none=>simp[hie]at hi
 |some ie =>
  simp only[hie,Option.map_some,eh]at hi;unfold execOp;simp[ho,Instr.alloc,zeroValue,typeInfo,hie,hi,newVar,newRow,Value.cells,Sem.run_bind,Result.andThen]
def zG(p:Value)(f:Nat->Nat->Int):aX:=p :: (kM f++((List.replicate 6 (mN fN zeroV)).flatten++[.int .i64 0,.slice none 0 0]))
theorem VA(B:Nat):prog.built 78 [(0,.pointer (some ⟨B,0,none⟩))]=some (zG (.pointer (some ⟨B,0,none⟩)) (fun _ _=>0)).toArray:=af
theorem Zg(p:Value)(f:Nat->Nat->Int){n:Nat}(hn:n<6):zG p f=(zG p f).take (17+n*45)++(mN fN zeroV++(zG p f).drop (17+n*45+45)):=by
 rcases(show n=0\/n=1\/n=2\/n=3\/n=4\/n=5 from ab)with rfl|rfl|rfl|rfl|rfl|rfl<;>rfl
section
variable {xw : Option (Nat × d_)} {a U U' : World} {T : Nat} {t : gB}
theorem VB{T:Nat}{pv:Nat->dm}(hf:Fr aW a W)(hT:a.heap.size<=T)(hb:W.heap[T]?=some (.cells (zG (.pointer (some ⟨B,0,none⟩)) (fun _ _=>0)).toArray 78 (0,0)))(hw:df a.heap.size W B pv G3):di none a W T xo:=by
 have hr:=Bm hb;refine⟨⟨B,fun _=>zeroV,.slice none 0 0,fun _=>0,⟨⟨_,hb,rfl⟩,hr 0 _ rfl,?_,fun n hn=>?_,hr 287 _ rfl,hr 288 _ rfl⟩,⟨fun _=>pv,?_,?_⟩,⟨[],rfl,dr _ _ _ _,fun _ h=>(by cases h)⟩,fun n hn=>⟨fun h=>absurd rfl h,fun h=>by rcases h with h|h<;>cases h⟩⟩,hT,hf⟩
 ·exact ka (p:=[_]) (q:=kM (fun _ _=>0)) hr
 ·rw[Zg _ _ hn]at hr;have:=ka hr
  rwa [show 0+((zG (.pointer (some ⟨B,0,none⟩)) (fun _ _=>0)).take (17+n*45)).length=17+n*45 by
   rw[aL,show(zG (.pointer (some ⟨B,0,none⟩)) (fun _ _=>0)).length=289 from rfl];omega]at this
 ·intro i C x hi;unfold oY at hi;split at hi
  ·cases hi;exact hw
  ·split at hi
   ·cases hi
   ·split at hi
    ·rename_i h;rcases h.2 with h|h<;>cases h
    ·cases hi
 ·intro i j C x D y Px hi hj;exfalso;have key:∀k E z,oY none B (fun _=>0) xo k=some (E,z)->k=6:=fun k E z hk=>by
   unfold oY at hk;split at hk
   ·assumption
   ·split at hk
    ·cases hk
    ·split at hk
     ·rename_i h;rcases h.2 with h|h<;>cases h
     ·cases hk
  exact Px ((key _ _ _ hi).trans (key _ _ _ hj).symm)
theorem Lb(hf:Fr aW a U):aC 20 #[] U fun e w'=>∃T,e=.returned (.pointer (some ⟨T,0,none⟩))/\di none a w' T xo/\Fr aW U w':=by
 go_enter func20,ntmps20;go_wp2_with fail
 refine(Zf U).mono ?_;rintro e u⟨B,pv,rfl,hw,hu⟩;have HE:=O (VB (a:=a) (W:=u.alloc (.cells (zG (.pointer (some ⟨B,0,none⟩)) (fun _ _=>0)).toArray 78)) (T:=u.heap.size) (B:=B) (pv:=pv) ((hf.trans hu).alloc _) (hf.trans hu).size (aB _ _) ((hw _ hf.size).dt ((ae aW u).alloc _)));have HUF:=O hu;clear hw hu;obtain⟨x,hx⟩:∃x,x=zG (.pointer (some ⟨B,0,none⟩)) (fun _ _=>0):=⟨_,rfl⟩;have HX:=O hx
 rw[<-hx]at HE;dsimp only;refine ‹∀ (a:Act) (w:World),wpList _ _ _ _ a w->_› _ _ ?_;refine wpList_buildTo rfl 78 _ rfl (some 2) rfl [(0,.pointer (some ⟨B,0,none⟩))] (by simp only[eA,cz,cY];rfl) x.toArray (by rw[HX.o];exact VA B) ?_;clear hx;refine wpList_boxTo rfl 78 (.tmp 2) rfl (some 3) rfl x.toArray rfl ?_;go_wp2;go_ret;exact⟨_,rfl,HE.o,HUF.o.alloc _⟩
end
theorem VC(f:Nat->Nat->Int):prog.built 78 [(1,.agg (kM f).toArray)]=some (zG (.pointer none) f).toArray:=af
theorem VD:(prog.info? 78).map (·.zero)=some (some (.agg (zG (.pointer none) (fun _ _=>0)).toArray)):=af
theorem VE:(prog.info? 78).map (·.size)=some 289:=af
theorem Zh(f:Nat->Nat->Int):(zG (.pointer none) f).toArray.all (·.oneCell')=true :=
 bU (by
  intro u hu;unfold zG at hu;rcases bu.1 hu with rfl|hu
  ·rfl
  ·rcases bP.1 hu with hu|hu
   ·unfold kM at hu;simp only[bu,cg,dS]at hu;rcases hu with rfl|rfl|rfl|rfl|rfl|rfl|rfl|rfl|rfl|rfl|rfl|rfl|rfl|rfl|rfl|rfl<;>rfl
   ·rcases bP.1 hu with hu|hu
    ·obtain⟨l,hl,hul⟩:=fD.1 hu;rw[List.eq_of_mem_replicate hl]at hul;have:=zz fN zeroV rfl rfl;rw[List.all_toArray,fZ]at this;exact this u hul
    ·simp only[bu,cg,dS]at hu;rcases hu with rfl|rfl<;>rfl)
theorem Zi(p:Value)(f:Nat->Nat->Int){q:Nat}(hq:q<4)(hi:i<4):(zG p f).toArray[1+q*4+i]?=some (.int .i64 (f q i)):=by
 have:=O2 f hq hi;rw[List.getElem?_toArray,Nat.add_assoc];unfold zG;rw[Nat.add_comm 1,List.getElem?_cons_succ,List.getElem?_append_left (by rw[nu];omega)];exact this
def zH(U:World)(f:Nat->Nat->Int):World:=(((U.alloc (.cells bQ 46)).alloc (.cells (zG (.pointer none) (fun _ _=>0)).toArray 78)).setRow (U.heap.size+1) (zG (.pointer none) f).toArray)
def BK(U:World)(f:Nat->Nat->Int):World:=((zH U f).alloc (.cells #[.slice none 0 0] 109)).alloc (.cells #[.slice none 0 0] 109)
section
variable {xw : Option (Nat × d_)} {a U U' : World} {T : Nat} {t : gB}
theorem F_(U:World)(f:Nat->Nat->Int):(zH U f).heap.size=U.heap.size+2:=by
 unfold zH;rw[World.setRow];simp[Array.size_modify]
theorem DV(U:World)(f:Nat->Nat->Int):Fr aW U (BK U f)/\(BK U f).heap.size=U.heap.size+4/\(BK U f).heap[U.heap.size]?=some (.cells bQ 46 (0,0))/\(BK U f).heap[U.heap.size+1]?=some (.cells (zG (.pointer none) f).toArray 78 (0,0))/\(BK U f).heap[U.heap.size+2]?=some (.cells #[.slice none 0 0] 109 (0,0))/\(BK U f).heap[U.heap.size+3]?=some (.cells #[.slice none 0 0] 109 (0,0)):=by
 have s1:(U.alloc (.cells bQ 46)).heap.size=U.heap.size+1:=aQ;have b1:=aB (U.alloc (.cells bQ 46)) (.cells (zG (.pointer none) (fun _ _=>0)).toArray 78);rw[s1]at b1;have b2:(zH U f).heap[U.heap.size+1]?=some (.cells (zG (.pointer none) f).toArray 78 (0,0)):=lK b1;have f0:Fr aW U (U.alloc (.cells bQ 46)):=(ae _ _).alloc _
 have f1:Fr aW (U.alloc (.cells bQ 46)) (zH U f):=iZ ((ae _ _).alloc _) (by rw[s1];exact ay _) _;have r1:(zH U f).heap[U.heap.size]?=some (.cells bQ 46 (0,0)):=f1.keep (aB U _) id;have sw:=F_ U f;have a1:=aB (zH U f) (.cells #[.slice none 0 0] 109);have a2:=aB ((zH U f).alloc (.cells #[.slice none 0 0] 109)) (.cells #[.slice none 0 0] 109)
 have s2:((zH U f).alloc (.cells #[.slice none 0 0] 109)).heap.size=U.heap.size+3:=by simp[sw]
 rw[sw]at a1;rw[s2]at a2;have f2:Fr aW (zH U f) ((zH U f).alloc (.cells #[.slice none 0 0] 109)):=(ae _ _).alloc _;have f3:Fr aW ((zH U f).alloc (.cells #[.slice none 0 0] 109)) (BK U f):=(ae _ _).alloc _;exact⟨((f0.trans f1).trans f2).trans f3,by unfold BK;simp[sw],f3.keep (f2.keep r1 id) id,f3.keep (f2.keep b2 id) id,f3.keep a1 id,a2⟩
structure St1 (U:World) (f:Nat->Nat->Int) (V:World):Prop where
 rep:V.heap[U.heap.size]?=some (.cells bQ 46 (0,0))
 was:V.heap[U.heap.size+1]?=some (.cells (zG (.pointer none) f).toArray 78 (0,0))
 var:V.heap[U.heap.size+3]?=some (.cells #[.slice none 0 0] 109 (0,0))
 kept:gH U V
theorem St1.keeps(U:World)(f:Nat->Nat->Int)(hb:U.heap.size+4<=base):yh base (U.heap.size+2) (St1 U f):=by
 intro V V' Z h hf hz;have key:∀n,n<U.heap.size+4->n≠U.heap.size+2->¬Z n:=fun n h1 h2 h3=>by
  rcases hz n h3 with e|⟨e,_⟩
  ·exact h2 e
  ·omega
 exact⟨hf.keep h.rep (key _ ab ab),hf.keep h.was (key _ ab ab),hf.keep h.var (key _ ab ab),h.kept.step hf fun n c e hn _ _ q=>key n ab ab q⟩
structure Wy (U:World) (f:Nat->Nat->Int) (bs:Nat) (va:Value) (l:List Int) (V:World):Prop where
 rep:V.heap[U.heap.size]?=some (.cells bQ 46 (0,0))
 was:V.heap[U.heap.size+1]?=some (.cells (zG (.pointer none) f).toArray 78 (0,0))
 var:V.heap[U.heap.size+2]?=some (.cells #[va] 109 (0,0))
 rows:OwnRows bs 3 1 V va (l.map vd)
 kept:gH U V
theorem Wy.keeps(U:World)(f:Nat->Nat->Int)(hb:U.heap.size+4<=base)(hv:∀b,va.ownBlock=some b->b<base/\b≠U.heap.size+3):yh base (U.heap.size+3) (Wy U f bs va l):=by
 intro V V' Z h hf hz;have key:∀n,n<base->n≠U.heap.size+3->¬Z n:=fun n h1 h2 h3=>by
  rcases hz n h3 with e|⟨e,_⟩
  ·exact h2 e
  ·omega
 exact⟨hf.keep h.rep (key _ ab ab),hf.keep h.was (key _ ab ab),hf.keep h.var (key _ ab ab),h.rows.fr hf fun b hb q=>key b (hv b hb).1 (hv b hb).2 q,h.kept.step hf fun n c e hn _ _ q=>key n ab ab q⟩
theorem Wy.dt{V':World}(h:Wy U f bs va l V)(hf:Fr aW V V'):Wy U f bs va l V' :=
 ⟨hf.keep h.rep id,hf.keep h.was id,hf.keep h.var id,h.rows.fr hf (fun _ _ h=>h),h.kept.trans (eE hf)⟩
theorem Rn(h:di xw a U T t)(f:Nat->Nat->Int)(hW:W=BK U f)(o:jB)(hs:List gU)(ho:gL W o hs) :
  aC 49 #[.pointer (some ⟨T,0,none⟩),.agg o.cells.toArray,.func (.func 50) #[] #[.pointer (some ⟨U.heap.size+2,0,none⟩)]] W fun e w'=>e=.returned (.tuple #[])/\zF xw a T t (U.heap.size+4) (U.heap.size+2) t.num (St1 U f) (mQ (o.dP hs)) w':=by
 subst hW;obtain⟨c1,c2,c3,c4,c5,c6⟩:=DV U f;have hk:=St1.keeps U f (ay _);refine v8 (BK U f) T o hs _ _ call50 (zF xw a T t (U.heap.size+4) (U.heap.size+2) t.num (St1 U f)) ?_ (fun d V V' hV hf=>hV.dt hk hf) (Vw hk) ho;have:=h.fr.size;exact⟨h.dt c1,⟨_,c5,dr _ _ _ _⟩,⟨ab,ab,ab⟩,⟨c3,c4,c6,eE c1⟩⟩
theorem NI{l:List (Nat×Nat)}(hV:zF xw a T t (U.heap.size+4) (U.heap.size+2) t.num (St1 U f) l V)(o:jB)(hs:List gU)(ho:gL V o hs) :
  ∃va,aC 49 #[.pointer (some ⟨U.heap.size+1,0,none⟩),.agg o.cells.toArray,.func (.func 51) #[] #[.pointer (some ⟨U.heap.size+3,0,none⟩)]] V fun e w'=>e=.returned (.tuple #[])/\zF xw a T t V.heap.size (U.heap.size+3) f (Wy U f (U.heap.size+4) va (zE l t.num)) (mQ (o.dP hs)) w':=by
 obtain⟨va,v1,v2⟩:=hV.rows;have hl:=hV.low;have hk:yh V.heap.size (U.heap.size+3) (Wy U f (U.heap.size+4) va (zE l t.num)):=Wy.keeps U f hl.2.1 fun b hb=>⟨v2.lt b hb,by have:=v2.block b hb;omega⟩
 refine⟨va,v8 V _ o hs _ _ call51 (zF xw a T t V.heap.size (U.heap.size+3) f (Wy U f (U.heap.size+4) va (zE l t.num))) ?_ (fun d V V' hV hf=>hV.dt hk hf) (Vx hk (fun W hW=>⟨_,hW.was,fun q i hq hi=>Zi _ f hq hi⟩)) ho⟩;exact⟨hV.tabs,⟨_,hV.rest.var,dr _ _ _ _⟩,⟨ab,ay _,ab⟩,⟨hV.rest.rep,hV.rest.was,v1,v2,hV.rest.kept⟩⟩
theorem VF{l:List (Nat×Nat)}(hl:l=mQ o)(hV:zF xw a T t bs (U.heap.size+3) f (Wy U f (U.heap.size+4) va (zE l t.num)) l V) :
  ∃vb,V.cell? ⟨U.heap.size+2,0,none⟩=some va/\V.cell? ⟨U.heap.size+3,0,none⟩=some vb/\(∃a1 n1 c1,va=.slice a1 n1 c1)/\(∃a1 n1 c1,vb=.slice a1 n1 c1)/\aC 52 #[va,vb] V fun e w'=>e=.returned (.bool (decide (FU o t.num=FU o f)))/\Fr aW V w':=by
 obtain⟨vb,w1,w2⟩:=hV.rows;have r:=hV.rest;obtain⟨a1,c1,e1⟩:=r.rows.form;obtain⟨a2,c2,e2⟩:=w2.form;refine⟨vb,by simp[World.cell?,r.var],by simp[World.cell?,w1],⟨_,_,_,e1⟩,⟨_,_,_,e2⟩,?_⟩;have:=adK (l:=zE l t.num) (l':=zE l f) r.rows.at w2.at (by rw[wa,wa]) (by rw[wa,hl];have:=KZ o;omega);rw[hl]at this;exact this
end
