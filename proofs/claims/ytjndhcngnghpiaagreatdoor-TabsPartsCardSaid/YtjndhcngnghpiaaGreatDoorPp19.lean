/- Lemmas for the law's walk. -/
import Derived.Test.YtjndhcngnghpiaaGreatDoorPp28
set_option maxRecDepth 100000
set_option maxHeartbeats 16000000
set_option linter.unusedSimpArgs false
namespace Go.Proofs.YtjndhcngnghpiaaGreatDoor
open Go.Proofs.Tryz
open Go.RowKit
variable {o:jx} {d r:List (Nat×Nat)} {c:Nat×Nat} {p i base A:Nat} {f:Nat->Nat->Int} {S:World->Prop} {v:Value} {l:List Int}
theorem Ky(o:jx):(j_ o).Pairwise (fun x y=>x.2<y.2):=by
 unfold j_;cases h0:(dV o).1.testBit 0<;>cases h1:(dV o).1.testBit 1<;>cases h2:(dV o).1.testBit 2<;>cases h3:(dV o).1.testBit 3<;>simp[h0,h1,h2,h3]
theorem Kz(o:jx):(j_ o).length<=4:=List.length_filterMap_le _ [0,1,2,3]
theorem U3(h:j_ o=d++c :: r):c∉d:=fun hc=>by
 have hp:=Ky o;rw[h,List.pairwise_append]at hp;have:=hp.2.2 c hc c (cY ..);omega
theorem G0(h:j_ o=d++c :: r):c.1<4/\c.2<4:=by
 have hm:(c.1,c.2)∈j_ o:=by rw[h];simp
 obtain⟨h1,h2,h3⟩:=Dn.1 hm;refine⟨?_,h1⟩;rw[h3];split
 ·decide
 ·cases hr:o.right
  ·rw[wF hr]at h2;simp at h2
  ·obtain⟨p0,p4⟩:=ja hr;omega
theorem KA(h:j_ o=d++c :: r):d.length<1000:=by
 have:=Kz o;rw[h]at this;simp at this;omega
def vW(d:List (Nat×Nat))(f:Nat->Nat->Int):Nat->Nat->Int:=fun p i=>if(p,i)∈d then f p i+1 else f p i
theorem QM(f:Nat->Nat->Int):vW [] f=f:=by funext p i;simp[vW]
theorem M4(hc:c∉d)(f:Nat->Nat->Int):vW (d++[c]) f=fun p i=>if(p,i)=c then f p i+1 else vW d f p i:=by
 funext p i
 unfold vW;by_cases e:(p,i)=c
 ·subst e;simp
 ·by_cases m:(p,i)∈d<;>simp[e,m]
theorem U4(f:Nat->Nat->Int)(hp:p<4)(hi:i<4)(v:Int):(kJ f).set (p*4+i) (.int .i64 v)=kJ (fun q j=>if(q,j)=(p,i)then v else f q j):=by
 rcases(show p=0\/p=1\/p=2\/p=3 from ab)with rfl|rfl|rfl|rfl<;>rcases(show i=0\/i=1\/i=2\/i=3 from ab)with rfl|rfl|rfl|rfl<;>rfl
def zr(d:List (Nat×Nat))(f:Nat->Nat->Int):List Int:=d.map fun c=>f c.1 c.2
theorem QN(d:List (Nat×Nat))(c:Nat×Nat)(f:Nat->Nat->Int):zr (d++[c]) f=zr d f++[f c.1 c.2]:=by unfold zr;simp
theorem vX(d:List (Nat×Nat))(f:Nat->Nat->Int):(zr d f).length=d.length:=by unfold zr;simp
section
variable {xw : Option (Nat × ed)} {a U U' : World} {T : Nat} {t : iI}
theorem dz.U5(h:dz xw a U T t)(hp:p<4)(hi:i<4):U.cell? ⟨T,1+p*4+i,none⟩=some (.int .i64 (t.num p i)):=by
 obtain⟨_,_,_,_,g1,_⟩:=h.ex;rw[Nat.add_assoc];exact g1.num _ _ (Om t.num hp hi)
theorem dz.lt(h:dz xw a U T t):T<U.heap.size:=by
 obtain⟨_,_,_,_,g1,_⟩:=h.ex;exact g1.lt
theorem dz.kind(h:dz xw a U T t):∃c,U.heap[T]?=some (.cells c 78 (0,0)):=by
 obtain⟨_,_,_,_,g1,_⟩:=h.ex;obtain⟨c,hc,_⟩:=g1.eK;exact⟨c,hc⟩
theorem dz.bump(h:dz xw a U T t)(hp:p<4)(hi:i<4)(v:Int):dz xw a (U.setCell ⟨T,1+p*4+i,none⟩ (.int .i64 v)) T {t with num:=fun q j=>if(q,j)=(p,i)then v else t.num q j}:=by
 obtain⟨B,g,sv,sb,h1,h2,h3,h4⟩:=h.ex;have q:=h1.acT hp hi v (U4 t.num hp hi v);rw[<-Nat.add_assoc]at q;exact k_ (t':={t with num:=fun q j=>if(q,j)=(p,i)then v else t.num q j}) h1 h2 h3 h4 h.low h.fr q rfl (fun _ _ hp=>hp) (fun j hj=>⟨fun hd=>Or.inl ⟨rfl,rfl,rfl,hd⟩,(h4 j hj).2⟩)
structure zt (xw:Option (Nat×ed)) (a:World) (T:Nat) (t:iI) (base A:Nat) (f:Nat->Nat->Int) (S:World->Prop) (d:List (Nat×Nat)) (V:World):Prop where
 tabs:dz xw a V T t
 rows:∃v,V.heap[A]?=some (.cells #[v] 109 (0,0))/\OwnRows base 3 1 V v ((zr d f).map uX)
 low:a.heap.size<=base/\base<=V.heap.size/\a.heap.size<=A
 rest:S V
def xZ(base A:Nat)(S:World->Prop):Prop:=∀V V' Z,S V->Fr Z V V'->(∀n,Z n->n=A\/(base<=n/\∃c,V.heap[n]?=some (.cells c 3 (0,0))))->S V'
theorem zt.dx(hS:xZ base A S)(h:zt xw a T t base A f S d U)(hf:Fr aX U U'):zt xw a T t base A f S d U':=by
 obtain⟨v,h1,h2⟩:=h.rows;exact⟨h.tabs.dx hf,⟨v,hf.keep h1 id,h2.fr hf (fun _ _ h=>h)⟩,⟨h.low.1,aH h.low.2.1 hf.size,h.low.2.2⟩,hS _ _ _ h.rest hf (fun _ h=>absurd h id)⟩
theorem zt.add{e:Ending}(hS:xZ base A S)(h:zt xw a T t base A f S d U)(h1:U.heap[A]?=some (.cells #[v] 109 (0,0)))(h2:OwnRows base 3 1 U v ((zr d f).map uX))(hp:GW base U A v (zr d f++[f c.1 c.2]) e U') :
  e=.returned (.tuple #[])/\zt xw a T t base A f S (d++[c]) U'/\∀(n:Nat) (k:bW),U.heap[n]?=some (.cells k 33 (0,0))->U'.heap[n]?=some (.cells k 33 (0,0)):=by
 obtain⟨he,v',p1,p2,p3⟩:=hp;have hz:∀n,(n=A\/own v n)->n=A\/(base<=n/\∃c,U.heap[n]?=some (.cells c 3 (0,0))):=fun n hn=>by
  rcases hn with hn|hn
  ·exact Or.inl hn
  ·exact Or.inr ⟨h2.block n hn,h2.AE hn⟩
 refine⟨he,⟨h.tabs.far p3 (fun n hn=>?_) (fun n hn=>?_),⟨v',p1,by rw[QN];exact p2⟩,⟨h.low.1,aH h.low.2.1 p3.size,h.low.2.2⟩,hS _ _ _ h.rest p3 hz⟩,fun n k hn=>p3.keep hn (fun hh=>?_)⟩
 ·rcases hz n hn with rfl|⟨q,_⟩
  ·exact h.low.2.2
  ·exact aH h.low.1 q
 ·rcases hz n hn with rfl|⟨_,c,q⟩
  ·exact⟨_,_,h1,UW⟩
  ·exact⟨_,_,q,YM⟩
 ·rcases hz n hh with rfl|⟨_,c,q⟩
  ·rw[h1]at hn;cases hn
  ·rw[q]at hn;cases hn
theorem U6(hS:xZ base A S):ux (zt xw a T t base A t.num S) o T 50 #[.pointer (some ⟨A,0,none⟩)]:=by
 intro d c r hd V hV;obtain⟨v,h1,h2⟩:=hV.rows;obtain⟨c1,c2⟩:=G0 hd;refine(adn h1 (hV.tabs.U5 c1 c2) h2 hV.low.2.1 (by rw[vX];exact KA hd)).mono ?_;intro e w' hp;exact hV.add hS h1 h2 hp
theorem U7{W0:Nat}(hS:xZ base A S)(hW:∀V,S V->∃cs,V.heap[W0]?=some (.cells cs 78 (0,0))/\∀q i,q<4->i<4->cs[1+q*4+i]?=some (.int .i64 (f q i))) :
  ux (zt xw a T t base A f S) o W0 51 #[.pointer (some ⟨A,0,none⟩)]:=by
 intro d c r hd V hV;obtain⟨v,h1,h2⟩:=hV.rows;obtain⟨c1,c2⟩:=G0 hd;obtain⟨cs,w1,w2⟩:=hW V hV.rest;have hc:V.cell? ⟨W0,1+c.1*4+c.2,none⟩=some (.int .i64 (f c.1 c.2)):=by
  simp only[World.cell?,w1];exact w2 _ _ c1 c2
 refine(ado h1 hc h2 hV.low.2.1 (by rw[vX];exact KA hd)).mono ?_;intro e w' hp;exact hV.add hS h1 h2 hp
structure U8 (xw:Option (Nat×ed)) (a:World) (T:Nat) (t:iI) (S:World->Prop) (d:List (Nat×Nat)) (V:World):Prop where
 tabs:dz xw a V T {t with num:=vW d t.num}
 rest:S V
def M5(T:Nat)(S:World->Prop):Prop:=∀V V' c,S V->V.heap[T]?=some (.cells c 78 (0,0))->Fr (one T) V V'->S V'
theorem U8.dx(hS:M5 T S)(h:U8 xw a T t S d U)(hf:Fr aX U U'):U8 xw a T t S d U':=by
 obtain⟨c,hc⟩:=h.tabs.kind;exact⟨h.tabs.dx hf,hS _ _ _ h.rest hc (hf.mono fun _ _ h=>absurd h id)⟩
theorem YR(hS:M5 T S)(hn:∀p i,0<=t.num p i/\t.num p i<1000000):ux (U8 xw a T t S) o T 55 #[]:=by
 intro d c r hd V hV;obtain⟨c1,c2⟩:=G0 hd;have aic:=U3 hd;have hv:vW d t.num c.1 c.2=t.num c.1 c.2:=ay aic;have hc:=hV.tabs.U5 c1 c2;rw[show({t with num:=vW d t.num}:iI).num c.1 c.2=t.num c.1 c.2 from hv]at hc;obtain⟨k,hk⟩:=hV.tabs.kind;refine(adl V T (1+c.1*4+c.2) hc (by simp[World.frozen?,hk]) (hn _ _).1 (hn _ _).2).mono ?_;rintro e w'⟨rfl,rfl⟩
 have hF:Fr (one T) V (V.setCell ⟨T,1+c.1*4+c.2,none⟩ (.int .i64 (t.num c.1 c.2+1))):=(ae (one T) V).setCell (p:=⟨T,1+c.1*4+c.2,none⟩) (fun _=>rfl) _;refine⟨rfl,⟨?_,hS _ _ _ hV.rest hk hF⟩,fun n q hq=>hF.keep hq (fun e=>?_)⟩
 ·have:=hV.tabs.bump c1 c2 (t.num c.1 c.2+1);rw[M4 aic];have ee:(fun q j=>if(q,j)=(c.1,c.2)then t.num c.1 c.2+1 else vW d t.num q j)=(fun p i=>if(p,i)=c then t.num p i+1 else vW d t.num p i):=by
   funext q j
   by_cases e:(q,j)=c
   ·have e':(q,j)=(c.1,c.2):=e;rw[aB e,aB e'];have e1:q=c.1:=by rw[<-e]
    have e2:j=c.2:=by rw[<-e]
    rw[e1,e2]
   ·have e':¬(q,j)=(c.1,c.2):=e;rw[ay e,ay e']
  exact ee▸this
 ·cases(show n=T from e);rw[hk]at hq;cases hq
theorem fT.same{B:Nat}{g:Nat->ql}{sv:Value}{t':iI}(h:fT U T B g sv t)(hn:t'.num=t.num)(ht:∀n,n<6->mU (t'.tab n) (g n)=mU (t.tab n) (g n))(hs:t'.steps=t.steps):fT U T B g sv t' :=
 ⟨h.eK,h.main,by rw[hn];exact h.num,fun n hl=>by rw[ht n hl];exact h.tab n hl,by rw[hs];exact h.steps,h.st⟩
theorem dz.main{B:Nat}{g:Nat->ql}{sv:Value}{sb:Nat->Nat}{f:FuncId}{args:bW}{R:Ending->Prop}{x':ed}(h1:fT U T B g sv t)(h2:xh a.heap.size U (oV xw B sb t))(h3:qx a.heap.size U sv t.ic)
  (h4:∀n,n<6->((t.tab n).does≠0->ka a.heap.size U ((g n).o,(g n).hs) (t.tab n).op)/\((t.tab n).does=2\/(t.tab n).does=3->(g n).sp=.pointer (some ⟨sb n,0,none⟩)))(kO:a.heap.size<=T)(cR:Fr aX a U)
  (hc:∀pv,di a.heap.size U B pv t.w->aE f args U fun e w'=>R e/\dy a.heap.size U B pv x' w') :
  aE f args U fun e w'=>R e/\dz xw a w' T {t with w:=x'}/\fT w' T B g sv t/\Kept U w':=by
 refine(xh.act h2 cR (az _) (i:=6) (B:=B) (x:=t.w) rfl hc).mono ?_;rintro e w'⟨r1,r2,r3,r4⟩;refine⟨r1,⟨⟨B,g,sv,sb,(r4.eK h1).same rfl (fun _ _=>rfl) rfl,r2.sub (fun i p hp=>?_),h3.kept r4,fun n hn=>⟨fun hd=>((h4 n hn).1 hd).kept r4,(h4 n hn).2⟩⟩,kO,r3⟩,r4.eK h1,r4⟩;by_cases e:i=6
 ·subst e;exact hp
 ·rw[ay e];unfold oV at hp ⊢;rw[ay e]at hp ⊢;exact hp
theorem dz.seen{B:Nat}{g:Nat->ql}{sv:Value}{sb:Nat->Nat}{f:FuncId}{args:bW}{R:Ending->Prop}{x':ed}{i:Nat}(hi:i<6)(hd:(t.tab i).does=2\/(t.tab i).does=3)(h1:fT U T B g sv t)(h2:xh a.heap.size U (oV xw B sb t))(h3:qx a.heap.size U sv t.ic)
  (h4:∀n,n<6->((t.tab n).does≠0->ka a.heap.size U ((g n).o,(g n).hs) (t.tab n).op)/\((t.tab n).does=2\/(t.tab n).does=3->(g n).sp=.pointer (some ⟨sb n,0,none⟩)))(_hlow:a.heap.size<=T)(cR:Fr aX a U)
  (hc:∀pv,di a.heap.size U (sb i) pv (t.tab i).seen->aE f args U fun e w'=>R e/\dy a.heap.size U (sb i) pv x' w') :
  aE f args U fun e w'=>R e/\(fT w' T B g sv t/\xh a.heap.size w' (oV xw B sb (t.put i {t.tab i with seen:=x'}))/\qx a.heap.size w' sv t.ic/\(∀n,n<6->((t.tab n).does≠0->ka a.heap.size w' ((g n).o,(g n).hs) (t.tab n).op))/\Fr aX a w')/\Kept U w':=by
 have hw:oV xw B sb t i=some (sb i,(t.tab i).seen):=by
  unfold oV;rw[ay ab,ay ab,aB ⟨hi,hd⟩]
 refine(xh.act h2 cR (az _) hw hc).mono ?_;rintro e w'⟨r1,r2,r3,r4⟩;refine⟨r1,⟨r4.eK h1,r2.sub (fun j p hp=>?_),h3.kept r4,fun n hn hd=>((h4 n hn).1 hd).kept r4,r3⟩,r4⟩;by_cases e:j=i
 ·subst e;rw[aB rfl];unfold oV at hp;rw[ay ab,ay ab]at hp;split at hp
  ·rw[<-hp];simp[iI.put]
  ·cases hp
 ·rw[ay e];unfold oV at hp ⊢;by_cases e6:j=6
  ·rw[aB e6]at hp ⊢;exact hp
  ·rw[ay e6]at hp ⊢;simpa[iI.put,e]using hp
theorem dz.U9(h:dz xw a U T t)(hi:i<6){j:Nat}(hj:j<45)(v:Value){x:vR}(hx:∀g,(mU (t.tab i) g).set j v=mU x g)(ho:x.op=(t.tab i).op)(h0:x.does≠0->(t.tab i).does≠0)(hs:x.does=2\/x.does=3->((t.tab i).does=2\/(t.tab i).does=3)/\x.seen=(t.tab i).seen) :
  dz xw a (U.setCell ⟨T,17+i*45+j,none⟩ v) T (t.put i x)/\Fr (one T) U (U.setCell ⟨T,17+i*45+j,none⟩ v):=by
 obtain⟨B,g,sv,sb,h1,h2,h3,h4⟩:=h.ex;have q:=h1.BL hi hj v (hx (g i));refine⟨k_ (t':=t.put i x) h1 h2 h3 h4 h.low h.fr q rfl (MK rfl fun n hn hd=>?_) (fun n hn=>?_),q.2⟩
 ·by_cases e:n=i
  ·subst e;simp only[iI.put,d_]at hd ⊢;exact hs hd
  ·simp only[iI.put,ay e]at hd ⊢;exact⟨hd,trivial⟩
 ·by_cases e:n=i
  ·subst e;simp only[iI.put,d_];exact⟨fun hd=>Or.inl ⟨trivial,trivial,ho,h0 hd⟩,fun hd=>(h4 n hn).2 (hs hd).1⟩
  ·simp only[iI.put,ay e];exact⟨fun hd=>Or.inl ⟨trivial,trivial,trivial,hd⟩,(h4 n hn).2⟩
theorem dz.at(h:dz xw a U T t)(hi:i<6):∃v:ql,U.rangeAt T (17+i*45) (mU (t.tab i) v)/\U.rangeAt T (17+i*45+1) v.o.cells/\U.rangeAt T (17+i*45+26) (kJ (t.tab i).num)/\U.rangeAt T (17+i*45+42) (pU (t.tab i).fP)/\((t.tab i).does≠0->ka a.heap.size U (v.o,v.hs) (t.tab i).op):=by
 obtain⟨B,g,sv,sb,h1,h2,h3,h4⟩:=h.ex;have hr:=h1.tab i hi;refine⟨g i,hr,nU (p:=[.int .i64 (t.tab i).does]) (q:=(g i).o.cells) hr,?_,?_,(h4 i hi).1⟩
 ·have:=nU (p:=.int .i64 (t.tab i).does :: ((g i).o.cells++[.int .i64 (t.tab i).fails,.int .i64 (t.tab i).mr,(g i).sp])) (q:=kJ (t.tab i).num) (r:=pU (t.tab i).fP) (U:=U) (b:=T) (o:=17+i*45) hr;exact this
 ·have:=nU (p:=.int .i64 (t.tab i).does :: ((g i).o.cells++(.int .i64 (t.tab i).fails :: .int .i64 (t.tab i).mr :: (g i).sp :: kJ (t.tab i).num))) (q:=pU (t.tab i).fP) (r:=[]) (U:=U) (b:=T) (o:=17+i*45) hr;exact this
theorem aaz(h:ez 1 U v (l.map uX))(hl:l≠ []):∃b o c,v=.slice (some ⟨b,o,none⟩) l.length c/\∀j,j<l.length->U.cell? ⟨b,o+j,none⟩=some (.int .i64 (l.getD j 0)):=by
 rcases h.2 with ⟨a',c',e1,e2,e3⟩|⟨bk,o',c,hf,g1,g2,g3,g4⟩
 ·exact absurd (by simpa using e2) hl
 ·rw[aj]at hf;refine⟨bk,o',c,hf,fun j hj=>?_⟩;have:=g4 j (uX (l.getD j 0)) (by simp[List.getElem?_eq_getElem hj,List.getD_eq_getElem?_getD]) 0 _ rfl;simpa using this
theorem adr{v':Value}{l':List Int}(h:ez 1 U v (l.map uX))(h':ez 1 U v' (l'.map uX))(hl:l.length=l'.length)(hs:l.length<1000) :
  aE 52 #[v,v'] U fun e w'=>e=.returned (.bool (decide (l=l')))/\Fr aX U w':=by
 by_cases h0:l=[]
 ·subst h0;have Ru:l'=[]:=dG.1 hl.symm;subst Ru;obtain⟨a1,c1,e1⟩:=h.form;obtain⟨a2,c2,e2⟩:=h'.form;rw[e1,e2];refine(slices_Equal_int_empty a1 a2 c1 0 c2 U ag).mono ?_;rintro e w'⟨rfl,rfl⟩;exact⟨rfl,ae _ _⟩
 ·have Ru:l'≠ []:=fun e=>h0 (dG.1 (by rw[hl,e];rfl));obtain⟨b1,o1,c1,e1,f1⟩:=aaz h h0;obtain⟨b2,o2,c2,e2,f2⟩:=aaz h' Ru;rw[e1,e2];refine(slices_Equal_int b1 o1 l.length c1 b2 o2 l'.length c2 l l' U (az _) (az _) ab ab f1 f2).mono ?_;rintro e w'⟨rfl,q,rfl⟩;refine⟨?_,(ae aX U).drewN q⟩;rw[List.take_length,List.take_length]
  congr 2
  by_cases e:l=l'<;>simp[e]
end
