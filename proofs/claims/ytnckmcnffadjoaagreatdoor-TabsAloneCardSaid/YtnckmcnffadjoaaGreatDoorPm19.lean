/- Lemmas for the law's walk. -/
import Derived.Test.YtnckmcnffadjoaaGreatDoorPm28
import Derived.Great.Walk
set_option maxRecDepth 100000
set_option maxHeartbeats 16000000
set_option linter.unusedSimpArgs false
namespace Go.Proofs.YtnckmcnffadjoaaGreatDoor
open Go.Proofs.Tryz
open Go.RowKit
variable {w W V:World} {m:tJ} {v sv va:Value} {k:Int} {o:iY} {d r:List (Nat×Nat)} {c:Nat×Nat} {p i base A B n bs R:Nat} {f:Nat->Nat->Int} {S:World->Prop} {e:Ending} {g:Nat->qI} {t':iy} {x:wB} {l:List Int} {q q':aX} {sb:Nat->Nat}
def u0(m:tJ):Bool:=qw (m.o,m.hs)
def wM(ms:List tJ):Bool:=decide (ms.length<=150)&&!(ms.any u0)
theorem Ap.dm{w':World}(h:Ap w m)(hf:Fr aS w w'):Ap w' m:={h with op:=h.op.fr hf}
theorem afT{m':tJ}(h:Ap w m)(h':Ap w m')(e:m.cells=m'.cells):u0 m=u0 m':=by
 unfold tJ.cells at e;simp only[fF]at e;have:=XE (o:=(m.o,m.hs)) (o':=(m'.o,m'.hs)) h.op h'.op e.2.2;unfold u0;rw[this]
theorem O5(m:tJ)(w:World)(h:Ap w m) :
  aB 26 #[.agg m.cells.toArray] w fun e w'=>e=.returned (.bool (u0 m))/\Fr aS w w':=by
 obtain⟨kd,tb,o,hs⟩:=m;obtain⟨ah,ch,hh⟩:=dK h.op.aJ.ey;rw[ai]at hh;obtain⟨i0,qA,po,k_,lp⟩:=info_parts Xx;obtain⟨y,hy⟩:∃y,y=tJ.cells ⟨kd,tb,o,hs⟩:=⟨_,rfl⟩;obtain⟨x1,mM⟩:∃x1,x1=w.alloc (.cells y.toArray 66):=⟨_,rfl⟩;have dr:Fr aS w x1:=by rw[mM];exact(ae aS w).alloc _
 have k1:x1.heap[w.heap.size]?=some (.cells y.toArray 66 (0,0)):=by rw[mM];exact aC _ _
 have HR:=O (show x1.rangeAt w.heap.size 2 o.cells by
  intro j v hj;have e:(y.toArray)[2+j]?=some v:=by
   rw[hy,List.getElem?_toArray,Nat.add_comm];exact hj
  simp only[World.cell?,k1];exact e)
 obtain⟨x2,PI⟩:∃x2,x2=x1.alloc (.cells o.cells.toArray 41):=⟨_,rfl⟩;have dB:Fr aS x1 x2:=by rw[PI];exact(ae aS x1).alloc _
 have hoa:=h.op.fr (dr.trans dB);have CV:=O (Mz _ _ x2 (ED.one hoa hh (n:=x1.heap.size) (by rw[PI];exact aC _ _)));rw[Hd]at CV;have Mw:Instr.fill (fun i=>some (i*i0.size,i0.size)) ((Array.range (1*i0.size)).map ((Value.agg zOp).cells[· %(Value.agg zOp).cells.size]!)) [(0,.agg o.cells.toArray)]=some o.cells.toArray:=by rw[k_,d_ hh];exact afJ o ah hs.length ch
 have MU:=O mM;have Qg:=O PI;have HF:=O (dr.trans dB);have Vo:=O (show(prog.info? 41).map (·.size)=some o.cells.length from af);obtain⟨oc,Ia⟩:∃oc,oc=o.cells:=⟨_,rfl⟩;rw[<-Ia]at HR Mw Qg Vo;rw[<-hy];clear h hh dr dB k1 mM PI hoa hy Ia;unfold u0;go_enter func26,ntmps26
 go_wp2_with (first|((with_reducible refine di 4 ?_);rw[<-MU.o];refine a_ rfl 41 (.tmp 3) rfl w.heap.size 2 rfl oc _ HR.o underlying41 rfl Vo.o ?_;refine xK rfl 52 41 1 _ rfl (some 5) rfl oc.toArray i0 (.agg zOp) [(0,.agg oc.toArray)] (by simp only[eF,cE,dt];rfl) underlying52 qA po (by rw[k_];decide) (by rw[k_];decide) Mw x1.heap.size rfl ?_)|fail)
 rw[<-Qg.o];refine CV.o.mono ?_;rintro e u⟨rfl,hf⟩;go_wp2;go_ret;exact⟨fB aR,HF.o.trans hf⟩
theorem S'(v:Value)(ms:List tJ)(w:World)(h:yF w v ms) :
  aB 8 #[v] w fun e w'=>e=.returned (.bool (wM ms))/\Fr aS w w':=by
 classical
 obtain⟨hv,hl,ha⟩:=h;obtain⟨av,cv,fJ⟩:=hv.form;rw[ai]at fJ;subst fJ;obtain⟨p,hp⟩:∃p:aX->Bool,∀m∈ms,p m.cells=u0 m:=⟨fun x=>decide (∃m∈ms,m.cells=x/\u0 m=true),fun m hm=>by
  cases hq:u0 m
  ·refine bD (fun⟨m',Hp,e,G0⟩=>?_);rw[afT (ha m' Hp) (ha m hm) e,hq]at G0;cases G0
  ·exact bM ⟨m,hm,rfl,hq⟩⟩
 have MV:=O (Cs _ #[] p _ _ w call26 (fun x hx u hu=>by
  obtain⟨m,hm,rfl⟩:=b_.1 hx;rw[hp m hm];simpa using O5 m u ((ha m hm).dm hu)) hv)
 have jk:=O (show(ms.map tJ.cells).any p=ms.any u0 by
  rw[List.any_map];clear MV hv hl
  induction ms with
  |nil=>rfl
  |cons m ms ih =>
   rw[List.any_cons,List.any_cons,ih (fun x hx=>ha x (bQ _ hx)) (fun x hx=>hp x (bQ _ hx))];show(p m.cells||_)=_;rw[hp m (cY ..)])
 clear hp ha hv;by_cases h30:ms.length<=150
 ·have hb:=O (show wM ms=!(ms.any u0)by unfold wM;rw[bM h30];rfl);have i30:(ms.length:Int)<=150:=ab;have d30:decide ((ms.length:Int)<=150)=true:=bM i30;go_enter func8,ntmps8;go_wp2_with fail
  refine MV.o.mono ?_;rw[jk.o];rintro e u⟨rfl,hf⟩;go_wp2;go_ret;exact⟨fB hb.o.symm,hf⟩
 ·have hb:=O (show wM ms=false by unfold wM;rw[bD h30];rfl);have i30:¬(ms.length:Int)<=150:=ab;have d30:decide ((ms.length:Int)<=150)=false:=bD i30;go_enter func8,ntmps8;go_wp2;go_ret;exact⟨fB hb.o.symm,ae _ _⟩
theorem wK.of{ms:List tJ}(h:yF w v ms)(hb:wM ms=true):wK w v ms/\ms.length<=150:=by
 unfold wM at hb;simp only[cF,dG,Bool.not_eq_true',eY]at hb;exact⟨⟨h.1,fun m hm=>gI.akU (h.2.2 m hm).op (by have:=hb.2 m hm;unfold u0 at this;simpa using this)⟩,hb.1⟩
section
variable {xw : Option (Nat × dI)} {a U U' : World} {T : Nat} {t : iy}
theorem OJ(h:cO xw a U T t)(n:Int)(hk:k<1000000)(hs:fY k t) :
  aB 27 #[.pointer (some ⟨T,0,none⟩),.int .i64 n] U fun e w'=>e=.returned (xi (sT t n).2)/\cO xw a w' T (sT t n).1/\gR U w':=by
 unfold sT;cases hn:yy n
 ·have HC:=O (IU U T hn);have HH:=O h;clear hn h hs;go_enter func27,ntmps27;go_wp2_with fail
  refine HC.o.mono ?_;rintro e u⟨rfl,rfl⟩;unfold xi;go_wp2;go_ret;exact⟨rfl,HH.o,lA _⟩
 ·obtain⟨i,rfl,hi⟩:=CN hn;obtain⟨B,g,sv,sb,h1,h2,h3,h4⟩:=h.ex;have HC:=O (Ot U T hi);have c:U.cell? ⟨T,17+i*45,none⟩=some (.int .i64 (t.tab i).does):=h1.tab i hi 0 _ rfl;have c2:=h1.steps;have fz:=h1.free 287;have e1:((i:Int)).toNat=i:=rfl;rw[az rfl,e1];by_cases hd:(t.tab i).does=0
  ·rw[az hd];rw[hd]at c;have HH:=O h;clear hn h hs h1 h2 h3 h4;go_enter func27,ntmps27;go_wp2_with fail
   refine HC.o.mono ?_;rintro e u⟨rfl,rfl⟩;go_wp2;go_ret;exact⟨rfl,HH.o,lA _⟩
  ·rw[aq hd];have hd0:¬((t.tab i).does:Int)=0:=ab;have s1:=hs.steps.1;have s2:=hs.steps.2;have q1:=h1.Eo (t.steps+1);have HT:=O (q1.1.there (o:=17+i*45) (n:=45) ab);have q2:=q1.1.Oq hi fX zeroV
   have HR:=O (kF (t':={(t.put i fX)with steps:=t.steps+1}) h1 h2 h3 h4 h.low h.fr ⟨q2.1,q1.2.trans q2.2⟩ rfl (Ov (t':={(t.put i fX)with steps:=t.steps+1}) rfl i (fun n hn=>aq hn) (by simp[iy.put,fX]) (by simp[iy.put,fX])) (fun j hj=>by
    by_cases ei:j=i
    ·subst ei;simp[iy.put,fX]
    ·simp only[iy.put,aq ei];exact⟨fun sM=>Or.inl ⟨trivial,trivial,trivial,sM⟩,(h4 j hj).2⟩))
   have Ym:=O (show gR U _ from by
    obtain⟨d,hd,_⟩:=h1.eL;exact(lA U).tabs hd (q1.2.trans q2.2))
   clear hn h hs h1 h2 h3 h4 q1 q2;go_enter func27,ntmps27;go_wp2_with fail
   refine HC.o.mono ?_;rintro e u⟨rfl,rfl⟩;go_wp2_with ((with_reducible refine cW 72 ?_);refine iu rfl 72 _ _ rfl T (17+i*45) (mV fX zeroV).toArray rfl rfl HT.o rfl (Ac _ _ rfl rfl) ?_)
   go_ret;exact⟨rfl,HR.o,Ym.o⟩
end
theorem Mi(o:iY):(mZ o).Pairwise (fun x y=>x.2<y.2):=by
 unfold mZ;cases h0:(dp o).1.testBit 0<;>cases h1:(dp o).1.testBit 1<;>cases h2:(dp o).1.testBit 2<;>cases h3:(dp o).1.testBit 3<;>simp[h0,h1,h2,h3]
theorem Mj(o:iY):(mZ o).length<=4:=List.length_filterMap_le _ [0,1,2,3]
theorem Xb(h:mZ o=d++c :: r):c∉d:=fun hc=>by
 have hp:=Mi o;rw[h,List.pairwise_append]at hp;have:=hp.2.2 c hc c (cY ..);omega
theorem I'(h:mZ o=d++c :: r):c.1<4/\c.2<4:=by
 have hm:(c.1,c.2)∈mZ o:=by rw[h];simp
 obtain⟨h1,h2,h3⟩:=WC.1 hm;refine⟨?_,h1⟩;rw[h3];split
 ·decide
 ·cases hr:o.right
  ·rw[Bn hr]at h2;simp at h2
  ·obtain⟨p0,p4⟩:=jT hr;omega
theorem Mk(h:mZ o=d++c :: r):d.length<1000:=by
 have:=Mj o;rw[h]at this;simp at this;omega
def wH(d:List (Nat×Nat))(f:Nat->Nat->Int):Nat->Nat->Int:=fun p i=>if(p,i)∈d then f p i+1 else f p i
theorem SH(f:Nat->Nat->Int):wH [] f=f:=by funext p i;simp[wH]
theorem OQ(hc:c∉d)(f:Nat->Nat->Int):wH (d++[c]) f=fun p i=>if(p,i)=c then f p i+1 else wH d f p i:=by
 funext p i
 unfold wH;by_cases e:(p,i)=c
 ·subst e;simp
 ·by_cases m:(p,i)∈d<;>simp[e,m]
theorem Xc(f:Nat->Nat->Int)(hp:p<4)(hi:i<4)(v:Int):(lh f).set (p*4+i) (.int .i64 v)=lh (fun q j=>if(q,j)=(p,i)then v else f q j):=by
 rcases(show p=0\/p=1\/p=2\/p=3 from ab)with rfl|rfl|rfl|rfl<;>rcases(show i=0\/i=1\/i=2\/i=3 from ab)with rfl|rfl|rfl|rfl<;>rfl
def Ah(d:List (Nat×Nat))(f:Nat->Nat->Int):List Int:=d.map fun c=>f c.1 c.2
theorem SI(d:List (Nat×Nat))(c:Nat×Nat)(f:Nat->Nat->Int):Ah (d++[c]) f=Ah d f++[f c.1 c.2]:=by unfold Ah;simp
theorem wI(d:List (Nat×Nat))(f:Nat->Nat->Int):(Ah d f).length=d.length:=by unfold Ah;simp
section
variable {xw : Option (Nat × dI)} {a U U' : World} {T : Nat} {t : iy}
theorem cO.Xd(h:cO xw a U T t)(hp:p<4)(hi:i<4):U.cell? ⟨T,1+p*4+i,none⟩=some (.int .i64 (t.num p i)):=by
 obtain⟨_,_,_,_,g1,_⟩:=h.ex;rw[Nat.add_assoc];exact g1.num _ _ (Qo t.num hp hi)
theorem cO.lt(h:cO xw a U T t):T<U.heap.size:=by
 obtain⟨_,_,_,_,g1,_⟩:=h.ex;exact g1.lt
theorem cO.kind(h:cO xw a U T t):∃c,U.heap[T]?=some (.cells c 75 (0,0)):=by
 obtain⟨_,_,_,_,g1,_⟩:=h.ex;obtain⟨c,hc,_⟩:=g1.eL;exact⟨c,hc⟩
theorem cO.bump(h:cO xw a U T t)(hp:p<4)(hi:i<4)(v:Int):cO xw a (U.setCell ⟨T,1+p*4+i,none⟩ (.int .i64 v)) T {t with num:=fun q j=>if(q,j)=(p,i)then v else t.num q j}:=by
 obtain⟨B,g,sv,sb,h1,h2,h3,h4⟩:=h.ex;have q:=h1.ae9 hp hi v (Xc t.num hp hi v);rw[<-Nat.add_assoc]at q;exact kF (t':={t with num:=fun q j=>if(q,j)=(p,i)then v else t.num q j}) h1 h2 h3 h4 h.low h.fr q rfl (fun _ _ hp=>hp) (fun j hj=>⟨fun hd=>Or.inl ⟨rfl,rfl,rfl,hd⟩,(h4 j hj).2⟩)
structure Ai (xw:Option (Nat×dI)) (a:World) (T:Nat) (t:iy) (base A:Nat) (f:Nat->Nat->Int) (S:World->Prop) (d:List (Nat×Nat)) (V:World):Prop where
 tabs:cO xw a V T t
 rows:∃v,V.heap[A]?=some (.cells #[v] 162 (0,0))/\OwnRows base 3 1 V v ((Ah d f).map vu)
 low:a.heap.size<=base/\base<=V.heap.size/\a.heap.size<=A
 rest:S V
def yD(base A:Nat)(S:World->Prop):Prop:=∀V V' Z,S V->Fr Z V V'->(∀n,Z n->n=A\/(base<=n/\∃c,V.heap[n]?=some (.cells c 3 (0,0))))->S V'
theorem Ai.dm(hS:yD base A S)(h:Ai xw a T t base A f S d U)(hf:Fr aS U U'):Ai xw a T t base A f S d U':=by
 obtain⟨v,h1,h2⟩:=h.rows;exact⟨h.tabs.dm hf,⟨v,hf.keep h1 id,h2.fr hf (fun _ _ h=>h)⟩,⟨h.low.1,aG h.low.2.1 hf.size,h.low.2.2⟩,hS _ _ _ h.rest hf (fun _ h=>absurd h id)⟩
theorem Ai.add(hS:yD base A S)(h:Ai xw a T t base A f S d U)(h1:U.heap[A]?=some (.cells #[v] 162 (0,0)))(h2:OwnRows base 3 1 U v ((Ah d f).map vu))(hp:I7 base U A v (Ah d f++[f c.1 c.2]) e U') :
  e=.returned (.tuple #[])/\Ai xw a T t base A f S (d++[c]) U'/\∀(n:Nat) (k:bS),U.heap[n]?=some (.cells k 41 (0,0))->U'.heap[n]?=some (.cells k 41 (0,0)):=by
 obtain⟨he,v',p1,p2,p3⟩:=hp;have hz:∀n,(n=A\/own v n)->n=A\/(base<=n/\∃c,U.heap[n]?=some (.cells c 3 (0,0))):=fun n hn=>by
  rcases hn with hn|hn
  ·exact Or.inl hn
  ·exact Or.inr ⟨h2.block n hn,h2.BM hn⟩
 refine⟨he,⟨h.tabs.far p3 (fun n hn=>?_) (fun n hn=>?_),⟨v',p1,by rw[SI];exact p2⟩,⟨h.low.1,aG h.low.2.1 p3.size,h.low.2.2⟩,hS _ _ _ h.rest p3 hz⟩,fun n k hn=>p3.keep hn (fun hh=>?_)⟩
 ·rcases hz n hn with rfl|⟨q,_⟩
  ·exact h.low.2.2
  ·exact aG h.low.1 q
 ·rcases hz n hn with rfl|⟨_,c,q⟩
  ·exact⟨_,_,h1,WW⟩
  ·exact⟨_,_,q,aaP⟩
 ·rcases hz n hh with rfl|⟨_,c,q⟩
  ·rw[h1]at hn;cases hn
  ·rw[q]at hn;cases hn
theorem Xe(hS:yD base A S):uR (Ai xw a T t base A t.num S) o T 85 #[.pointer (some ⟨A,0,none⟩)]:=by
 intro d c r hd V hV;obtain⟨v,h1,h2⟩:=hV.rows;obtain⟨c1,c2⟩:=I' hd;refine(afx h1 (hV.tabs.Xd c1 c2) h2 hV.low.2.1 (by rw[wI];exact Mk hd)).mono ?_;intro e w' hp;exact hV.add hS h1 h2 hp
theorem Xf{W0:Nat}(hS:yD base A S)(hW:∀V,S V->∃cs,V.heap[W0]?=some (.cells cs 75 (0,0))/\∀q i,q<4->i<4->cs[1+q*4+i]?=some (.int .i64 (f q i))) :
  uR (Ai xw a T t base A f S) o W0 86 #[.pointer (some ⟨A,0,none⟩)]:=by
 intro d c r hd V hV;obtain⟨v,h1,h2⟩:=hV.rows;obtain⟨c1,c2⟩:=I' hd;obtain⟨cs,w1,w2⟩:=hW V hV.rest;have hc:V.cell? ⟨W0,1+c.1*4+c.2,none⟩=some (.int .i64 (f c.1 c.2)):=by
  simp only[World.cell?,w1];exact w2 _ _ c1 c2
 refine(afy h1 hc h2 hV.low.2.1 (by rw[wI];exact Mk hd)).mono ?_;intro e w' hp;exact hV.add hS h1 h2 hp
structure Xg (xw:Option (Nat×dI)) (a:World) (T:Nat) (t:iy) (S:World->Prop) (d:List (Nat×Nat)) (V:World):Prop where
 tabs:cO xw a V T {t with num:=wH d t.num}
 rest:S V
def OS(T:Nat)(S:World->Prop):Prop:=∀V V' c,S V->V.heap[T]?=some (.cells c 75 (0,0))->Fr (one T) V V'->S V'
theorem Xg.dm(hS:OS T S)(h:Xg xw a T t S d U)(hf:Fr aS U U'):Xg xw a T t S d U':=by
 obtain⟨c,hc⟩:=h.tabs.kind;exact⟨h.tabs.dm hf,hS _ _ _ h.rest hc (hf.mono fun _ _ h=>absurd h id)⟩
theorem aaU(hS:OS T S)(hn:∀p i,0<=t.num p i/\t.num p i<1000000):uR (Xg xw a T t S) o T 90 #[]:=by
 intro d c r hd V hV;obtain⟨c1,c2⟩:=I' hd;have aky:=Xb hd;have hv:wH d t.num c.1 c.2=t.num c.1 c.2:=aq aky;have hc:=hV.tabs.Xd c1 c2;rw[show({t with num:=wH d t.num}:iy).num c.1 c.2=t.num c.1 c.2 from hv]at hc;obtain⟨k,hk⟩:=hV.tabs.kind;refine(afv V T (1+c.1*4+c.2) hc (by simp[World.frozen?,hk]) (hn _ _).1 (hn _ _).2).mono ?_;rintro e w'⟨rfl,rfl⟩
 have hF:Fr (one T) V (V.setCell ⟨T,1+c.1*4+c.2,none⟩ (.int .i64 (t.num c.1 c.2+1))):=(ae (one T) V).setCell (p:=⟨T,1+c.1*4+c.2,none⟩) (fun _=>rfl) _;refine⟨rfl,⟨?_,hS _ _ _ hV.rest hk hF⟩,fun n q hq=>hF.keep hq (fun e=>?_)⟩
 ·have:=hV.tabs.bump c1 c2 (t.num c.1 c.2+1);rw[OQ aky];have ee:(fun q j=>if(q,j)=(c.1,c.2)then t.num c.1 c.2+1 else wH d t.num q j)=(fun p i=>if(p,i)=c then t.num p i+1 else wH d t.num p i):=by
   funext q j
   by_cases e:(q,j)=c
   ·have e':(q,j)=(c.1,c.2):=e;rw[az e,az e'];have e1:q=c.1:=by rw[<-e]
    have e2:j=c.2:=by rw[<-e]
    rw[e1,e2]
   ·have e':¬(q,j)=(c.1,c.2):=e;rw[aq e,aq e']
  exact ee▸this
 ·cases(show n=T from e);rw[hk]at hq;cases hq
theorem gj.same(h:gj U T B g sv t)(hn:t'.num=t.num)(ht:∀n,n<6->mV (t'.tab n) (g n)=mV (t.tab n) (g n))(hs:t'.steps=t.steps):gj U T B g sv t' :=
 ⟨h.eL,h.main,by rw[hn];exact h.num,fun n hl=>by rw[ht n hl];exact h.tab n hl,by rw[hs];exact h.steps,h.st⟩
theorem cO.main{B:Nat}{g:Nat->qI}{sv:Value}{sb:Nat->Nat}{f:FuncId}{args:bS}{R:Ending->Prop}{x':dI}(h1:gj U T B g sv t)(h2:xj a.heap.size U (oA xw B sb t))(h3:qQ a.heap.size U sv t.gz)
  (h4:∀n,n<6->((t.tab n).does≠0->kp a.heap.size U ((g n).o,(g n).hs) (t.tab n).op)/\((t.tab n).does=2\/(t.tab n).does=3->(g n).sp=.pointer (some ⟨sb n,0,none⟩)))(lo:a.heap.size<=T)(cL:Fr aS a U)
  (hc:∀pv,cD a.heap.size U B pv t.w->aB f args U fun e w'=>R e/\dn a.heap.size U B pv x' w') :
  aB f args U fun e w'=>R e/\cO xw a w' T {t with w:=x'}/\gj w' T B g sv t/\Kept U w':=by
 refine(xj.act h2 cL (ay _) (i:=6) (B:=B) (x:=t.w) rfl hc).mono ?_;rintro e w'⟨r1,r2,r3,r4⟩;refine⟨r1,⟨⟨B,g,sv,sb,(r4.eL h1).same rfl (fun _ _=>rfl) rfl,r2.sub (fun i p hp=>?_),h3.kept r4,fun n hn=>⟨fun hd=>((h4 n hn).1 hd).kept r4,(h4 n hn).2⟩⟩,lo,r3⟩,r4.eL h1,r4⟩;by_cases e:i=6
 ·subst e;exact hp
 ·rw[aq e];unfold oA at hp ⊢;rw[aq e]at hp ⊢;exact hp
theorem cO.seen{B:Nat}{g:Nat->qI}{sv:Value}{sb:Nat->Nat}{f:FuncId}{args:bS}{R:Ending->Prop}{x':dI}{i:Nat}(hi:i<6)(hd:(t.tab i).does=2\/(t.tab i).does=3)(h1:gj U T B g sv t)(h2:xj a.heap.size U (oA xw B sb t))(h3:qQ a.heap.size U sv t.gz)
  (h4:∀n,n<6->((t.tab n).does≠0->kp a.heap.size U ((g n).o,(g n).hs) (t.tab n).op)/\((t.tab n).does=2\/(t.tab n).does=3->(g n).sp=.pointer (some ⟨sb n,0,none⟩)))(_hlow:a.heap.size<=T)(cL:Fr aS a U)
  (hc:∀pv,cD a.heap.size U (sb i) pv (t.tab i).seen->aB f args U fun e w'=>R e/\dn a.heap.size U (sb i) pv x' w') :
  aB f args U fun e w'=>R e/\(gj w' T B g sv t/\xj a.heap.size w' (oA xw B sb (t.put i {t.tab i with seen:=x'}))/\qQ a.heap.size w' sv t.gz/\(∀n,n<6->((t.tab n).does≠0->kp a.heap.size w' ((g n).o,(g n).hs) (t.tab n).op))/\Fr aS a w')/\Kept U w':=by
 have hw:oA xw B sb t i=some (sb i,(t.tab i).seen):=by
  unfold oA;rw[aq ab,aq ab,az ⟨hi,hd⟩]
 refine(xj.act h2 cL (ay _) hw hc).mono ?_;rintro e w'⟨r1,r2,r3,r4⟩;refine⟨r1,⟨r4.eL h1,r2.sub (fun j p hp=>?_),h3.kept r4,fun n hn hd=>((h4 n hn).1 hd).kept r4,r3⟩,r4⟩;by_cases e:j=i
 ·subst e;rw[az rfl];unfold oA at hp;rw[aq ab,aq ab]at hp;split at hp
  ·rw[<-hp];simp[iy.put]
  ·cases hp
 ·rw[aq e];unfold oA at hp ⊢;by_cases e6:j=6
  ·rw[az e6]at hp ⊢;exact hp
  ·rw[aq e6]at hp ⊢;simpa[iy.put,e]using hp
theorem cO.Xh(h:cO xw a U T t)(hi:i<6){j:Nat}(hj:j<45)(v:Value)(hx:∀g,(mV (t.tab i) g).set j v=mV x g)(ho:x.op=(t.tab i).op)(h0:x.does≠0->(t.tab i).does≠0)(hs:x.does=2\/x.does=3->((t.tab i).does=2\/(t.tab i).does=3)/\x.seen=(t.tab i).seen) :
  cO xw a (U.setCell ⟨T,17+i*45+j,none⟩ v) T (t.put i x)/\Fr (one T) U (U.setCell ⟨T,17+i*45+j,none⟩ v):=by
 obtain⟨B,g,sv,sb,h1,h2,h3,h4⟩:=h.ex;have q:=h1.CM hi hj v (hx (g i));refine⟨kF (t':=t.put i x) h1 h2 h3 h4 h.low h.fr q rfl (Ou rfl fun n hn hd=>?_) (fun n hn=>?_),q.2⟩
 ·by_cases e:n=i
  ·subst e;simp only[iy.put,ef]at hd ⊢;exact hs hd
  ·simp only[iy.put,aq e]at hd ⊢;exact⟨hd,trivial⟩
 ·by_cases e:n=i
  ·subst e;simp only[iy.put,ef];exact⟨fun hd=>Or.inl ⟨trivial,trivial,ho,h0 hd⟩,fun hd=>(h4 n hn).2 (hs hd).1⟩
  ·simp only[iy.put,aq e];exact⟨fun hd=>Or.inl ⟨trivial,trivial,trivial,hd⟩,(h4 n hn).2⟩
theorem cO.at(h:cO xw a U T t)(hi:i<6):∃v:qI,U.rangeAt T (17+i*45) (mV (t.tab i) v)/\U.rangeAt T (17+i*45+1) v.o.cells/\U.rangeAt T (17+i*45+26) (lh (t.tab i).num)/\U.rangeAt T (17+i*45+42) (qp (t.tab i).jm)/\((t.tab i).does≠0->kp a.heap.size U (v.o,v.hs) (t.tab i).op):=by
 obtain⟨B,g,sv,sb,h1,h2,h3,h4⟩:=h.ex;have hr:=h1.tab i hi;refine⟨g i,hr,kS (p:=[.int .i64 (t.tab i).does]) (q:=(g i).o.cells) hr,?_,?_,(h4 i hi).1⟩
 ·have:=kS (p:=.int .i64 (t.tab i).does :: ((g i).o.cells++[.int .i64 (t.tab i).fails,.int .i64 (t.tab i).mY,(g i).sp])) (q:=lh (t.tab i).num) (r:=qp (t.tab i).jm) (U:=U) (b:=T) (o:=17+i*45) hr;exact this
 ·have:=kS (p:=.int .i64 (t.tab i).does :: ((g i).o.cells++(.int .i64 (t.tab i).fails :: .int .i64 (t.tab i).mY :: (g i).sp :: lh (t.tab i).num))) (q:=qp (t.tab i).jm) (r:=[]) (U:=U) (b:=T) (o:=17+i*45) hr;exact this
theorem acJ(h:dY 1 U v (l.map vu))(hl:l≠ []):∃b o c,v=.slice (some ⟨b,o,none⟩) l.length c/\∀j,j<l.length->U.cell? ⟨b,o+j,none⟩=some (.int .i64 (l.getD j 0)):=by
 rcases h.2 with ⟨a',c',e1,e2,e3⟩|⟨bk,o',c,hf,g1,g2,g3,g4⟩
 ·exact absurd (by simpa using e2) hl
 ·rw[ai]at hf;refine⟨bk,o',c,hf,fun j hj=>?_⟩;have:=g4 j (vu (l.getD j 0)) (by simp[List.getElem?_eq_getElem hj,List.getD_eq_getElem?_getD]) 0 _ rfl;simpa using this
theorem afC{v':Value}{l':List Int}(h:dY 1 U v (l.map vu))(h':dY 1 U v' (l'.map vu))(hl:l.length=l'.length)(hs:l.length<1000) :
  aB 87 #[v,v'] U fun e w'=>e=.returned (.bool (decide (l=l')))/\Fr aS U w':=by
 by_cases h0:l=[]
 ·subst h0;have TJ:l'=[]:=dH.1 hl.symm;subst TJ;obtain⟨a1,c1,e1⟩:=h.form;obtain⟨a2,c2,e2⟩:=h'.form;rw[e1,e2];refine(slices_Equal_int_empty a1 a2 c1 0 c2 U ag).mono ?_;rintro e w'⟨rfl,rfl⟩;exact⟨rfl,ae _ _⟩
 ·have TJ:l'≠ []:=fun e=>h0 (dH.1 (by rw[hl,e];rfl));obtain⟨b1,o1,c1,e1,f1⟩:=acJ h h0;obtain⟨b2,o2,c2,e2,f2⟩:=acJ h' TJ;rw[e1,e2];refine(slices_Equal_int b1 o1 l.length c1 b2 o2 l'.length c2 l l' U (ay _) (ay _) ab ab f1 f2).mono ?_;rintro e w'⟨rfl,q,rfl⟩;refine⟨?_,(ae aS U).drewN q⟩;rw[List.take_length,List.take_length]
  congr 2
  by_cases e:l=l'<;>simp[e]
end
theorem wpList_buildTo{P:Program}{ops:Array Oper}{rest:List Oper}{o:Oper}{a:Act}{w:World}{Q:Exit->Act->World->Prop}(hg:o.guard=none)(t:TypeId)(parts:Array (Nat×Operand))(ho:o.op=.build t parts)(dst:Option Tmp)(OU:o.dst=dst)
  (vs:List (Nat×Value))(he:(parts.map fun(i,x)=>(i,a.eval x)).toList=vs)(cells:bS)(hf:P.built t vs=some cells)
  (h:wpList P ops Q rest (a.put dst (.agg cells)) w):wpList P ops Q (o :: rest) a w:=by
 subst OU;refine wpList_build hg t parts ho (by rw[he,hf];rfl) ?_;rw[he,hf];exact h
theorem wpList_boxTo{P:Program}{ops:Array Oper}{rest:List Oper}{o:Oper}{a:Act}{w:World}{Q:Exit->Act->World->Prop}(hg:o.guard=none)(t:TypeId)(x:Operand)(ho:o.op=.box t x)(dst:Option Tmp)(OU:o.dst=dst)
  (cells:bS)(hx:a.eval x=.agg cells)
  (h:wpList P ops Q rest (a.put dst (.pointer (some ⟨w.heap.size,0,none⟩))) (w.alloc (.cells cells t))):wpList P ops Q (o :: rest) a w:=by
 refine Great.wpList_runTo hg dst OU (.pointer (some ⟨w.heap.size,0,none⟩)) _ ?_ h;unfold execOp;simp[ho,Instr.box,newVar,newRow,hx,Value.cells,Result.andThen]
theorem kT{P:Program}{ops:Array Oper}{rest:List Oper}{o:Oper}{a:Act}{w:World}{Q:Exit->Act->World->Prop}(hg:o.guard=none)(t:TypeId)(ho:o.op=.alloc t)(dst:Option Tmp)(OU:o.dst=dst)
  (cells:bS)(hi:(P.info? t).map (·.zero)=some (some (.agg cells)))(N:Nat)(hN:w.heap.size=N)
  (h:wpList P ops Q rest (a.put dst (.pointer (some ⟨N,0,none⟩))) (w.alloc (.cells cells t))):wpList P ops Q (o :: rest) a w:=by
 subst hN;refine Great.wpList_runTo hg dst OU (.pointer (some ⟨w.heap.size,0,none⟩)) _ ?_ h;cases hie:P.info? t with
 |none=>simp[hie]at hi
 |some ie =>
  simp only[hie,Option.map_some,ez]at hi;unfold execOp;simp[ho,Instr.alloc,zeroValue,typeInfo,hie,hi,newVar,newRow,Value.cells,Sem.run_bind,Result.andThen]
def Aj(p:Value)(f:Nat->Nat->Int):aX:=p :: (lh f++((List.replicate 6 (mV fX zeroV)).flatten++[.int .i64 0,.slice none 0 0]))
theorem Xi(B:Nat):prog.built 75 [(0,.pointer (some ⟨B,0,none⟩))]=some (Aj (.pointer (some ⟨B,0,none⟩)) (fun _ _=>0)).toArray:=af
theorem aaW(p:Value)(f:Nat->Nat->Int)(hn:n<6):Aj p f=(Aj p f).take (17+n*45)++(mV fX zeroV++(Aj p f).drop (17+n*45+45)):=by
 rcases(show n=0\/n=1\/n=2\/n=3\/n=4\/n=5 from ab)with rfl|rfl|rfl|rfl|rfl|rfl<;>rfl
section
variable {xw : Option (Nat × dI)} {a U U' : World} {T : Nat} {t : iy}
theorem Xj{T:Nat}{pv:Nat->cV}(hf:Fr aS a W)(hT:a.heap.size<=T)(hb:W.heap[T]?=some (.cells (Aj (.pointer (some ⟨B,0,none⟩)) (fun _ _=>0)).toArray 75 (0,0)))(hw:cD a.heap.size W B pv Bc):cO none a W T xH:=by
 have hr:=Cb hb;refine⟨⟨B,fun _=>zeroV,.slice none 0 0,fun _=>0,⟨⟨_,hb,rfl⟩,hr 0 _ rfl,?_,fun n hn=>?_,hr 287 _ rfl,hr 288 _ rfl⟩,⟨fun _=>pv,?_,?_⟩,⟨[],rfl,dy _ _ _ _,fun _ h=>(by cases h)⟩,fun n hn=>⟨fun h=>absurd rfl h,fun h=>by rcases h with h|h<;>cases h⟩⟩,hT,hf⟩
 ·exact kS (p:=[_]) (q:=lh (fun _ _=>0)) hr
 ·rw[aaW _ _ hn]at hr;have:=kS hr
  rwa [show 0+((Aj (.pointer (some ⟨B,0,none⟩)) (fun _ _=>0)).take (17+n*45)).length=17+n*45 by
   rw[aM,show(Aj (.pointer (some ⟨B,0,none⟩)) (fun _ _=>0)).length=289 from rfl];omega]at this
 ·intro i C x hi;unfold oA at hi;split at hi
  ·cases hi;exact hw
  ·split at hi
   ·cases hi
   ·split at hi
    ·rename_i h;rcases h.2 with h|h<;>cases h
    ·cases hi
 ·intro i j C x D y QR hi hj;exfalso;have key:∀k E z,oA none B (fun _=>0) xH k=some (E,z)->k=6:=fun k E z hk=>by
   unfold oA at hk;split at hk
   ·assumption
   ·split at hk
    ·cases hk
    ·split at hk
     ·rename_i h;rcases h.2 with h|h<;>cases h
     ·cases hk
  exact QR ((key _ _ _ hi).trans (key _ _ _ hj).symm)
theorem Mm(hf:Fr aS a U):aB 22 #[] U fun e w'=>∃T,e=.returned (.pointer (some ⟨T,0,none⟩))/\cO none a w' T xH/\Fr aS U w':=by
 go_enter func22,ntmps22;go_wp2_with fail
 refine(Qv U).mono ?_;rintro e u⟨B,pv,rfl,hw,hu⟩;have HE:=O (Xj (a:=a) (W:=u.alloc (.cells (Aj (.pointer (some ⟨B,0,none⟩)) (fun _ _=>0)).toArray 75)) (T:=u.heap.size) (B:=B) (pv:=pv) ((hf.trans hu).alloc _) (hf.trans hu).size (aC _ _) ((hw _ hf.size).dm ((ae aS u).alloc _)));have HUF:=O hu;clear hw hu;obtain⟨x,hx⟩:∃x,x=Aj (.pointer (some ⟨B,0,none⟩)) (fun _ _=>0):=⟨_,rfl⟩;have HX:=O hx
 rw[<-hx]at HE;dsimp only;refine ‹∀ (a:Act) (w:World),wpList _ _ _ _ a w->_› _ _ ?_;refine wpList_buildTo rfl 75 _ rfl (some 2) rfl [(0,.pointer (some ⟨B,0,none⟩))] (by simp only[eF,cE,dt];rfl) x.toArray (by rw[HX.o];exact Xi B) ?_;clear hx;refine wpList_boxTo rfl 75 (.tmp 2) rfl (some 3) rfl x.toArray rfl ?_;go_wp2;go_ret;exact⟨_,rfl,HE.o,HUF.o.alloc _⟩
end
theorem Xk(f:Nat->Nat->Int):prog.built 75 [(1,.agg (lh f).toArray)]=some (Aj (.pointer none) f).toArray:=af
theorem Xl:(prog.info? 75).map (·.zero)=some (some (.agg (Aj (.pointer none) (fun _ _=>0)).toArray)):=af
theorem Xm:(prog.info? 75).map (·.size)=some 289:=af
theorem aaX(f:Nat->Nat->Int):(Aj (.pointer none) f).toArray.all (·.oneCell')=true :=
 bX (by
  intro u hu;unfold Aj at hu;rcases bB.1 hu with rfl|hu
  ·rfl
  ·rcases bR.1 hu with hu|hu
   ·unfold lh at hu;simp only[bB,cz,dX]at hu;rcases hu with rfl|rfl|rfl|rfl|rfl|rfl|rfl|rfl|rfl|rfl|rfl|rfl|rfl|rfl|rfl|rfl<;>rfl
   ·rcases bR.1 hu with hu|hu
    ·obtain⟨l,hl,hul⟩:=fL.1 hu;rw[List.eq_of_mem_replicate hl]at hul;have:=Ac fX zeroV rfl rfl;rw[List.all_toArray,gB]at this;exact this u hul
    ·simp only[bB,cz,dX]at hu;rcases hu with rfl|rfl<;>rfl)
theorem aaY(p:Value)(f:Nat->Nat->Int){q:Nat}(hq:q<4)(hi:i<4):(Aj p f).toArray[1+q*4+i]?=some (.int .i64 (f q i)):=by
 have:=Qo f hq hi;rw[List.getElem?_toArray,Nat.add_assoc];unfold Aj;rw[Nat.add_comm 1,List.getElem?_cons_succ,List.getElem?_append_left (by rw[nD];omega)];exact this
def Ak(U:World)(f:Nat->Nat->Int):World:=(((U.alloc (.cells bT 30)).alloc (.cells (Aj (.pointer none) (fun _ _=>0)).toArray 75)).setRow (U.heap.size+1) (Aj (.pointer none) f).toArray)
def Cr(U:World)(f:Nat->Nat->Int):World:=((Ak U f).alloc (.cells #[.slice none 0 0] 162)).alloc (.cells #[.slice none 0 0] 162)
section
variable {xw : Option (Nat × dI)} {a U U' : World} {T : Nat} {t : iy}
theorem G'(U:World)(f:Nat->Nat->Int):(Ak U f).heap.size=U.heap.size+2:=by
 unfold Ak;rw[World.setRow];simp[Array.size_modify]
theorem Ez(U:World)(f:Nat->Nat->Int):Fr aS U (Cr U f)/\(Cr U f).heap.size=U.heap.size+4/\(Cr U f).heap[U.heap.size]?=some (.cells bT 30 (0,0))/\(Cr U f).heap[U.heap.size+1]?=some (.cells (Aj (.pointer none) f).toArray 75 (0,0))/\(Cr U f).heap[U.heap.size+2]?=some (.cells #[.slice none 0 0] 162 (0,0))/\(Cr U f).heap[U.heap.size+3]?=some (.cells #[.slice none 0 0] 162 (0,0)):=by
 have s1:(U.alloc (.cells bT 30)).heap.size=U.heap.size+1:=aR;have b1:=aC (U.alloc (.cells bT 30)) (.cells (Aj (.pointer none) (fun _ _=>0)).toArray 75);rw[s1]at b1;have b2:(Ak U f).heap[U.heap.size+1]?=some (.cells (Aj (.pointer none) f).toArray 75 (0,0)):=jR b1;have f0:Fr aS U (U.alloc (.cells bT 30)):=(ae _ _).alloc _
 have f1:Fr aS (U.alloc (.cells bT 30)) (Ak U f):=gV ((ae _ _).alloc _) (by rw[s1];exact ay _) _;have r1:(Ak U f).heap[U.heap.size]?=some (.cells bT 30 (0,0)):=f1.keep (aC U _) id;have sw:=G' U f;have a1:=aC (Ak U f) (.cells #[.slice none 0 0] 162);have a2:=aC ((Ak U f).alloc (.cells #[.slice none 0 0] 162)) (.cells #[.slice none 0 0] 162)
 have s2:((Ak U f).alloc (.cells #[.slice none 0 0] 162)).heap.size=U.heap.size+3:=by simp[sw]
 rw[sw]at a1;rw[s2]at a2;have f2:Fr aS (Ak U f) ((Ak U f).alloc (.cells #[.slice none 0 0] 162)):=(ae _ _).alloc _;have f3:Fr aS ((Ak U f).alloc (.cells #[.slice none 0 0] 162)) (Cr U f):=(ae _ _).alloc _;exact⟨((f0.trans f1).trans f2).trans f3,by unfold Cr;simp[sw],f3.keep (f2.keep r1 id) id,f3.keep (f2.keep b2 id) id,f3.keep a1 id,a2⟩
structure St1 (U:World) (f:Nat->Nat->Int) (V:World):Prop where
 rep:V.heap[U.heap.size]?=some (.cells bT 30 (0,0))
 was:V.heap[U.heap.size+1]?=some (.cells (Aj (.pointer none) f).toArray 75 (0,0))
 var:V.heap[U.heap.size+3]?=some (.cells #[.slice none 0 0] 162 (0,0))
 kept:gR U V
theorem St1.keeps(U:World)(f:Nat->Nat->Int)(hb:U.heap.size+4<=base):yD base (U.heap.size+2) (St1 U f):=by
 intro V V' Z h hf hz;have key:∀n,n<U.heap.size+4->n≠U.heap.size+2->¬Z n:=fun n h1 h2 h3=>by
  rcases hz n h3 with e|⟨e,_⟩
  ·exact h2 e
  ·omega
 exact⟨hf.keep h.rep (key _ ab ab),hf.keep h.was (key _ ab ab),hf.keep h.var (key _ ab ab),h.kept.step hf fun n c e hn _ _ q=>key n ab ab q⟩
structure Yo (U:World) (f:Nat->Nat->Int) (bs:Nat) (va:Value) (l:List Int) (V:World):Prop where
 rep:V.heap[U.heap.size]?=some (.cells bT 30 (0,0))
 was:V.heap[U.heap.size+1]?=some (.cells (Aj (.pointer none) f).toArray 75 (0,0))
 var:V.heap[U.heap.size+2]?=some (.cells #[va] 162 (0,0))
 rows:OwnRows bs 3 1 V va (l.map vu)
 kept:gR U V
theorem Yo.keeps(U:World)(f:Nat->Nat->Int)(hb:U.heap.size+4<=base)(hv:∀b,va.ownBlock=some b->b<base/\b≠U.heap.size+3):yD base (U.heap.size+3) (Yo U f bs va l):=by
 intro V V' Z h hf hz;have key:∀n,n<base->n≠U.heap.size+3->¬Z n:=fun n h1 h2 h3=>by
  rcases hz n h3 with e|⟨e,_⟩
  ·exact h2 e
  ·omega
 exact⟨hf.keep h.rep (key _ ab ab),hf.keep h.was (key _ ab ab),hf.keep h.var (key _ ab ab),h.rows.fr hf fun b hb q=>key b (hv b hb).1 (hv b hb).2 q,h.kept.step hf fun n c e hn _ _ q=>key n ab ab q⟩
theorem Yo.dm{V':World}(h:Yo U f bs va l V)(hf:Fr aS V V'):Yo U f bs va l V' :=
 ⟨hf.keep h.rep id,hf.keep h.was id,hf.keep h.var id,h.rows.fr hf (fun _ _ h=>h),h.kept.trans (eJ hf)⟩
theorem SL(h:cO xw a U T t)(f:Nat->Nat->Int)(hW:W=Cr U f)(o:jQ)(hs:List ig)(ho:gI W o hs) :
  aB 84 #[.pointer (some ⟨T,0,none⟩),.agg o.cells.toArray,.func (.func 85) #[] #[.pointer (some ⟨U.heap.size+2,0,none⟩)]] W fun e w'=>e=.returned (.tuple #[])/\Ai xw a T t (U.heap.size+4) (U.heap.size+2) t.num (St1 U f) (mZ (o.dR hs)) w':=by
 subst hW;obtain⟨c1,c2,c3,c4,c5,c6⟩:=Ez U f;have hk:=St1.keeps U f (ay _);refine wG (Cr U f) T o hs _ _ call85 (Ai xw a T t (U.heap.size+4) (U.heap.size+2) t.num (St1 U f)) ?_ (fun d V V' hV hf=>hV.dm hk hf) (Xe hk) ho;have:=h.fr.size;exact⟨h.dm c1,⟨_,c5,dy _ _ _ _⟩,⟨ab,ab,ab⟩,⟨c3,c4,c6,eJ c1⟩⟩
theorem OV{l:List (Nat×Nat)}(hV:Ai xw a T t (U.heap.size+4) (U.heap.size+2) t.num (St1 U f) l V)(o:jQ)(hs:List ig)(ho:gI V o hs) :
  ∃va,aB 84 #[.pointer (some ⟨U.heap.size+1,0,none⟩),.agg o.cells.toArray,.func (.func 86) #[] #[.pointer (some ⟨U.heap.size+3,0,none⟩)]] V fun e w'=>e=.returned (.tuple #[])/\Ai xw a T t V.heap.size (U.heap.size+3) f (Yo U f (U.heap.size+4) va (Ah l t.num)) (mZ (o.dR hs)) w':=by
 obtain⟨va,v1,v2⟩:=hV.rows;have hl:=hV.low;have hk:yD V.heap.size (U.heap.size+3) (Yo U f (U.heap.size+4) va (Ah l t.num)):=Yo.keeps U f hl.2.1 fun b hb=>⟨v2.lt b hb,by have:=v2.block b hb;omega⟩
 refine⟨va,wG V _ o hs _ _ call86 (Ai xw a T t V.heap.size (U.heap.size+3) f (Yo U f (U.heap.size+4) va (Ah l t.num))) ?_ (fun d V V' hV hf=>hV.dm hk hf) (Xf hk (fun W hW=>⟨_,hW.was,fun q i hq hi=>aaY _ f hq hi⟩)) ho⟩;exact⟨hV.tabs,⟨_,hV.rest.var,dy _ _ _ _⟩,⟨ab,ay _,ab⟩,⟨hV.rest.rep,hV.rest.was,v1,v2,hV.rest.kept⟩⟩
theorem Xn{l:List (Nat×Nat)}(hl:l=mZ o)(hV:Ai xw a T t bs (U.heap.size+3) f (Yo U f (U.heap.size+4) va (Ah l t.num)) l V) :
  ∃vb,V.cell? ⟨U.heap.size+2,0,none⟩=some va/\V.cell? ⟨U.heap.size+3,0,none⟩=some vb/\(∃a1 n1 c1,va=.slice a1 n1 c1)/\(∃a1 n1 c1,vb=.slice a1 n1 c1)/\aB 87 #[va,vb] V fun e w'=>e=.returned (.bool (decide (GY o t.num=GY o f)))/\Fr aS V w':=by
 obtain⟨vb,w1,w2⟩:=hV.rows;have r:=hV.rest;obtain⟨a1,c1,e1⟩:=r.rows.form;obtain⟨a2,c2,e2⟩:=w2.form;refine⟨vb,by simp[World.cell?,r.var],by simp[World.cell?,w1],⟨_,_,_,e1⟩,⟨_,_,_,e2⟩,?_⟩;have:=afC (l:=Ah l t.num) (l':=Ah l f) r.rows.at w2.at (by rw[wI,wI]) (by rw[wI,hl];have:=Mj o;omega);rw[hl]at this;exact this
end
section
variable {xw : Option (Nat × dI)} {a U U' : World} {T : Nat} {t : iy}
def Qw(xw:Option (Nat×dI))(a U:World)(T:Nat)(r:iy×(kI×Bool))(e:Ending)(w':World):Prop :=
 e=.returned (.tuple #[.agg #[.int .i64 r.2.1.what,.string r.2.1.head,.int .i64 r.2.1.cert],.bool r.2.2,.nilIface])/\cO xw a w' T r.1/\gR U w'
theorem CO{r:kI×Bool}(h:cO xw a W T t')(hk:gR U W)(hR:U.heap.size<=R)(ha:a.heap.size<=R)(hr:W.heap[R]?=some (.cells bT 30 (0,0)))(cs:bS)(he:e=.returned (.tuple #[.agg #[.int .i64 r.1.what,.string r.1.head,.int .i64 r.1.cert],.bool r.2,.nilIface])):Qw xw a U T (t',r) e (W.setRow R cs) :=
 ⟨he,h.far ((ae (one R) _).setRow (fun _=>rfl) _) (fun n hn=>by have e':n=R:=hn;omega) (fun n hn=>by cases(show n=R from hn);exact⟨_,_,hr,I2⟩),hk.new ((ae (one R) _).setRow (fun _=>rfl) _) hR⟩
theorem aa0(t:iy)(n:Nat)(x y:wB):(t.put n x).put n y=t.put n y:=by
 unfold iy.put;simp only
 congr 1
 funext i
 split<;>rfl
theorem kp.fits{v:qI}(h:kp base V (v.o,v.hs) o):gI V v.o v.hs/\v.o.dR v.hs=o:=⟨h.fit,h.is⟩
theorem OW(h:cO xw a U T t)(hi:i<6)(hd:(t.tab i).does=3)(hk:k<1000000)(hf:fY k t)(hl:t.gz.length<1000000) :
  aB 43 #[.pointer (some ⟨T,0,none⟩),.int .i64 i,.pointer (some ⟨T,17+i*45,none⟩)] U (Qw xw a U T (jt t i)):=by
 have hd0:(t.tab i).does≠0:=ab;obtain⟨c1,c2,c3,c4,c5,c6⟩:=Ez U (t.tab i).num;obtain⟨W4,hW4⟩:∃W4,W4=Cr U (t.tab i).num:=⟨_,rfl⟩;rw[<-hW4]at c1 c2 c3 c4 c5 c6;have h4:=h.dm c1;obtain⟨v, -, v1, -, -, v4⟩:=h4.at hi;obtain⟨v4a,v4b⟩:=(v4 hd0).fits;have HV1:=O v1;have Qu:=O (SL h (t.tab i).num hW4 v.o v.hs v4a);rw[v4b]at Qu;have ow:=h.lt;obtain⟨_, -, -, n0, -, -⟩:=h.at hi
 have HN0:=O (show(U.alloc (.cells bT 30)).rangeAt T (17+i*45+26) (lh (t.tab i).num)from pX n0 ((ae aS U).alloc _) id);have N_:=O hW4;have Ym:=O hk;have wJ:=O hf;have HL:=O hl;have HD:=O hd;have HI:=O hi;have HA:=O h.fr.size
 have EU:=O (show((U.alloc (.cells bT 30)).alloc (.cells (Aj (.pointer none) (fun _ _=>0)).toArray 75)).heap[U.heap.size+1]?=some (.cells (Aj (.pointer none) (fun _ _=>0)).toArray 75 (0,0))from by
  have:=aC (U.alloc (.cells bT 30)) (.cells (Aj (.pointer none) (fun _ _=>0)).toArray 75);simpa using this)
 obtain⟨f,UR⟩:∃f,f=(t.tab i).num:=⟨_,rfl⟩;rw[<-UR]at HN0 Qu N_;have HF:=O UR;clear h h4 v1 v4 v4a v4b n0 c1 c2 c3 c4 c5 c6 hW4 hk hf hl hd hd0 UR;unfold Cr at N_;go_enter func43,ntmps43
 go_wp2_with (first|((with_reducible refine di 18 ?_);refine a_ rfl 70 (.tmp 17) rfl T (17+i*45+26) rfl (lh f) _ HN0.o underlying70 rfl af ?_;refine wpList_buildTo rfl 75 _ rfl (some 19) rfl [(1,.agg (lh f).toArray)] (by simp only[eF,cE,dt];rfl) (Aj (.pointer none) f).toArray (Xk f) ?_;refine kT rfl 75 rfl (some 9) rfl (Aj (.pointer none) (fun _ _=>0)).toArray Xl (U.heap.size+1) aR ?_;refine aF rfl 75 (.tmp 9) (.tmp 19) rfl (U.heap.size+1) (Aj (.pointer none) f).toArray rfl rfl 75 (Aj (.pointer none) (fun _ _=>0)).toArray EU.o Xm rfl (aaX f) ?_;change wpList _ _ _ _ _ (Ak U f);have ML:=G' U f;generalize Ak U f=W2 at *)|((with_reducible refine di 24 ?_);rw[<-N_.o];refine a_ rfl 41 (.tmp 23) rfl T (17+i*45+1) rfl v.o.cells _ HV1.o underlying41 rfl af ?_)|fail)
 refine Qu.o.mono ?_;rintro e u⟨rfl,hu⟩;clear ML N_ HV1 Qu EU HN0;obtain⟨v2, -, m1, -, -, m4⟩:=hu.tabs.at HI.o;obtain⟨m4a,m4b⟩:=(m4 (by rw[HD.o];decide)).fits;obtain⟨va,hcs⟩:=OV hu v2.o v2.hs m4a;rw[m4b]at hcs;have HV2:=O m1;have wV:=O hcs;clear hu m1 m4 m4a m4b hcs
 go_wp2_with (first|((with_reducible refine di 30 ?_);refine a_ rfl 41 (.tmp 29) rfl T (17+i*45+1) rfl v2.o.cells _ HV2.o underlying41 rfl af ?_)|fail)
 refine wV.o.mono ?_;rintro e u2⟨rfl,nu⟩;obtain⟨vb,d1,d2,⟨a1,n1,b1,rfl⟩,⟨a2,n2,b2,rfl⟩,hce⟩:=Xn rfl nu;have HCE:=O hce;have tI:=O nu;clear nu hce HV2 wV;go_wp2_with fail
 refine HCE.o.mono ?_;rintro e u3⟨rfl,zD⟩;have Sk:=O (tI.o.tabs.dm zD);have r3:=tI.o.rest.dm zD;have Vf:=O r3.rep;have Sx:=O r3.kept;clear d1 d2 zD r3 HCE tI;rw[HF.o];clear HF;obtain⟨R,hR⟩:∃R,R=U.heap.size:=⟨_,rfl⟩;have Yp:=O (show U.heap.size<=R from ab);have Yq:=O (show a.heap.size<=R by have:=HA.o;omega);rw[<-hR]at Vf ⊢;clear hR;have hfi:=wJ.o.fails i
 by_cases hv:GY (t.tab i).op t.num=GY (t.tab i).op (t.tab i).num
 ·rw[bM hv];obtain⟨v3, -, k1, -, k3,k4⟩:=Sk.o.at HI.o;obtain⟨k4a,k4b⟩:=(k4 (by rw[HD.o];decide)).fits;have xr:=Bt u3 v3.o v3.hs k4a;rw[k4b]at xr;have Ff:=O xr;have TF:=O k1;clear xr k1 k3 k4 k4a k4b hfi;cases hw:(dp (t.tab i).op).2
  ·as_aux_lemma =>
    have HE:=O (show jt t i=(lW t i (t.tab i).jm,(t.tab i).jm,true)by unfold jt;rw[az hv,hw];rfl);rw[hw]at Ff;clear hv hw;go_wp2_with (first|((with_reducible refine di 66 ?_);refine a_ rfl 41 (.tmp 65) rfl T (17+i*45+1) rfl v3.o.cells _ TF.o underlying41 rfl af ?_)|fail)
    refine Ff.o.mono ?_;rintro e u4⟨rfl,CJ⟩;have ht4:=Sk.o.dm CJ;obtain⟨-, -, -, -, k3, -⟩:=ht4.at HI.o;have HV4:=O k3;have HEN:=O (Ex ht4 HI.o (t.tab i).jm (by rw[HD.o];decide) HL.o);have X6:=O (CJ.keep Vf.o id);have Y3:=O (Sx.o.trans (eJ CJ));clear CJ ht4 k3 Ff TF Sk Vf Sx;generalize (t.tab i).jm=rr at *
    go_wp2_with (first|((with_reducible refine di 99 ?_);refine a_ rfl 30 (.tmp 98) rfl T (17+i*45+42) rfl (qp rr) _ HV4.o underlying30 rfl af ?_)|fail)
    refine HEN.o.mono ?_;rintro e u5⟨rfl,z1,z2⟩;have MW:=O (z2.block X6.o mK);have Qx:=O z1;have HZ2:=O (Y3.o.trans z2);clear z1 z2;go_wp2_with (first|((with_reducible refine cW 30 ?_);refine aF rfl 30 (.tmp 6) (.tmp 101) rfl R #[.int .i64 rr.what,.string rr.head,.int .i64 rr.cert] rfl rfl _ bT MW.o (bf _ rfl) rfl bW ?_)|fail)
    refine aU (jv bC _ _ R 30 #[.int .i64 rr.what,.string rr.head,.int .i64 rr.cert] (0,0) _ rfl (aY _ R _ _ _ _ MW.o) underlying30 rfl (bf _ rfl)) rfl ?_;rw[HE.o];exact CO Qx.o HZ2.o Yp.o Yq.o MW.o _ rfl
  ·as_aux_lemma =>
    have HE:=O (show jt t i=(lW {t with w:=kP t.w (t.tab i).seen (t.tab i).op.part (dp (t.tab i).op).1,num:=En (t.tab i).op t.num} i (t.tab i).jm,(t.tab i).jm,true)by unfold jt;rw[az hv,hw];rfl);rw[hw]at Ff;clear hv hw;go_wp2_with (first|((with_reducible refine di 66 ?_);refine a_ rfl 41 (.tmp 65) rfl T (17+i*45+1) rfl v3.o.cells _ TF.o underlying41 rfl af ?_)|fail)
    refine Ff.o.mono ?_;rintro e u4⟨rfl,CJ⟩;have ht4:=Sk.o.dm CJ.drew;have X6:=O (show u4.drew.heap[R]?=some (.cells bT 30 (0,0))from CJ.drew.keep Vf.o id);have Y3:=O (Sx.o.trans (eJ CJ.drew));obtain⟨B,g,sv,sb,p1,p2,p3,p4⟩:=ht4.ex;have qx:=(p4 i HI.o).2 (Or.inr HD.o);have CG:(g i).o.aJ.part=(t.tab i).op.part:=by rw[<-((p4 i HI.o).1 (by rw[HD.o];decide)).is];rfl
    have QP:=O (cO.main p1 p2 p3 p4 ht4.low ht4.fr (x':=kP t.w (t.tab i).seen (t.tab i).op.part (dp (t.tab i).op).1) (fun pv hw=>by
     obtain⟨qv,hq⟩:=p2.at (i:=i) (B:=sb i) (x:=(t.tab i).seen) (by
      have:=HI.o;unfold oA;rw[aq ab,aq ab,az ⟨HI.o,Or.inr HD.o⟩])
     exact SF hw hq (wJ.o.seen i (Or.inr HD.o)) (t.tab i).op.part (Sy _)))
    have m0:=p1.main;have m25:u4.drew.cell? ⟨T,17+i*45+25,none⟩=some (.pointer (some ⟨sb i,0,none⟩)):=by rw[<-qx];exact p1.tab i HI.o 25 _ rfl
    have m2:u4.drew.cell? ⟨T,17+i*45+1+1,none⟩=some (.int .i64 (t.tab i).op.part):=by rw[<-CG];exact p1.tab i HI.o 2 _ rfl
    have xN:=O qx;have HPT:=O CG;clear CJ ht4 p1 p2 p3 p4 qx CG Ff TF Sk Vf Sx;obtain⟨cn,hcn⟩:∃cn:Nat,cn=(dp (t.tab i).op).1:=⟨_,rfl⟩;obtain⟨pt,CG⟩:∃pt:Int,pt=(t.tab i).op.part:=⟨_,rfl⟩;have HCN:=O hcn;have HPN:=O CG;rw[<-hcn, <-CG]at QP;rw[<-CG]at m2;rw[<-hcn];clear hcn CG;go_wp2_with fail
    refine wp_region_held_drew (S:=(fun V=>V.cell? ⟨T,0,none⟩=some (.pointer (some ⟨B,0,none⟩))/\V.cell? ⟨T,17+i*45+25,none⟩=some (.pointer (some ⟨sb i,0,none⟩))/\V.cell? ⟨T,17+i*45+1+1,none⟩=some (.int .i64 pt))) af (by exact⟨m0,m25,m2⟩) ?_;intro Az;refine aW 0 71 rfl ?_;refine aW 1 72 rfl ?_;refine aW 2 73 rfl ?_;refine aW 3 74 rfl ?_;refine aW 4 75 rfl ?_;refine aW 5 76 rfl ?_;refine aW 6 77 rfl ?_
    refine aW 7 78 rfl ?_;refine aW 8 79 rfl ?_;refine aW 9 80 rfl ?_;refine aW 10 81 rfl ?_;refine aW 11 82 rfl ?_;refine aW 12 83 rfl ?_;refine aW 13 84 rfl ?_;refine aW 14 85 rfl ?_;refine eT 15 rfl fun K hK=>?_;go_simp;refine QP.o.mono ?_;rintro e u5⟨rfl,z1,z2,z3⟩;have Qx:=O z1;have MW:=O ((gR.Ow z3).block X6.o mK);have HK5:=O (Y3.o.trans (gR.Ow z3))
    have yu:u5.cell? ⟨T,0,none⟩=some (.pointer (some ⟨B,0,none⟩))/\u5.cell? ⟨T,17+i*45+25,none⟩=some (.pointer (some ⟨sb i,0,none⟩))/\u5.cell? ⟨T,17+i*45+1+1,none⟩=some (.int .i64 pt):=⟨z2.main,by rw[<-xN.o];exact z2.tab i HI.o 25 _ rfl,by rw[HPN.o, <-HPT.o];exact z2.tab i HI.o 2 _ rfl⟩;refine hK.out _ _ yu ?_;intro B7;clear hK K Az yu B7 z1 z2 z3 m0 m25 m2 QP X6 Y3;refine wpAnyH_done af ?_ _
    have ht5:=Qx.o;obtain⟨v6, -, k1, -, -, k4⟩:=ht5.at HI.o;obtain⟨k4a,k4b⟩:=(k4 (show((t.tab i).does≠0)by rw[HD.o];decide)).fits;have hkp:OS T (fun V=>V.heap[R]?=some (.cells bT 30 (0,0))/\gR U V):=fun V V' c hS hc hF=>⟨hF.keep hS.1 (fun e=>by
     cases(show R=T from e);have:=hS.1;rw[hc]at this;cases this),hS.2.tabs hc hF⟩
    have hnu:=wG u5 T v6.o v6.hs _ #[] call90 (Xg xw a T {t with w:=kP t.w (t.tab i).seen pt cn} (fun V=>V.heap[R]?=some (.cells bT 30 (0,0))/\gR U V)) ⟨by rw[SH];exact ht5,MW.o,HK5.o⟩ (fun d V V' hV hf=>hV.dm hkp hf) (aaU hkp (fun p i=>⟨(wJ.o.num p i).1,by have h1:=(wJ.o.num p i).2;have h2:=Ym.o;show t.num p i<_;omega⟩)) k4a;rw[show v6.o.dR v6.hs=(t.tab i).op from k4b]at hnu;have HNU:=O hnu
    have HV6:=O k1;clear ht5 k1 k4 k4a k4b hkp hnu Qx MW HK5;go_wp2_with (first|((with_reducible refine di 91 ?_);refine a_ rfl 41 (.tmp 90) rfl T (17+i*45+1) rfl v6.o.cells _ HV6.o underlying41 rfl af ?_)|fail)
    refine HNU.o.mono ?_;rintro e u6⟨rfl,hu6⟩;have ht6:=hu6.tabs;obtain⟨-, -, -, -, k3, -⟩:=ht6.at HI.o;have HV4:=O (show u6.rangeAt T (17+i*45+42) (qp (t.tab i).jm)from k3);have hen:=Ex ht6 HI.o (t.tab i).jm (show(t.tab i).does≠0 by rw[HD.o];decide) HL.o;have X6:=O hu6.rest.1;have Y3:=O hu6.rest.2
    have HEE:=O (show({t with w:=kP t.w (t.tab i).seen (t.tab i).op.part (dp (t.tab i).op).1,num:=En (t.tab i).op t.num}:iy)={({t with w:=kP t.w (t.tab i).seen pt cn}:iy)with num:=wH (mZ (t.tab i).op) t.num}from by rw[HPN.o,HCN.o];rfl);rw[HEE.o]at HE;have HEN:=O hen;clear hu6 ht6 k3 hen HNU HV6 HEE;generalize (t.tab i).jm=rr at *
    go_wp2_with (first|((with_reducible refine di 99 ?_);refine a_ rfl 30 (.tmp 98) rfl T (17+i*45+42) rfl (qp rr) _ HV4.o underlying30 rfl af ?_)|fail)
    refine HEN.o.mono ?_;rintro e u5⟨rfl,z1,z2⟩;have MW:=O (z2.block X6.o mK);have Qx:=O z1;have HZ2:=O (Y3.o.trans z2);clear z1 z2;go_wp2_with (first|((with_reducible refine cW 30 ?_);refine aF rfl 30 (.tmp 6) (.tmp 101) rfl R #[.int .i64 rr.what,.string rr.head,.int .i64 rr.cert] rfl rfl _ bT MW.o (bf _ rfl) rfl bW ?_)|fail)
    refine aU (jv bC _ _ R 30 #[.int .i64 rr.what,.string rr.head,.int .i64 rr.cert] (0,0) _ rfl (aY _ R _ _ _ _ MW.o) underlying30 rfl (bf _ rfl)) rfl ?_;rw[HE.o];exact CO Qx.o HZ2.o Yp.o Yq.o MW.o _ rfl
 ·rw[bD hv];have q0:(0:Int)<=((t.tab i).fails:Int):=ab;have q3:((t.tab i).fails:Int)<=3:=ab;have hfz:=Sk.o;obtain⟨B,g,sv,sb,p1, -⟩:=hfz.ex;have c23:u3.cell? ⟨T,17+i*45+23,none⟩=some (.int .i64 (t.tab i).fails):=p1.tab i HI.o 23 _ rfl;have f23:=p1.free (17+i*45+23)
  obtain⟨s1,s2⟩:=hfz.Xh HI.o (j:=23) ag (.int .i64 ((t.tab i).fails+1:Nat)) (x:={t.tab i with fails:=(t.tab i).fails+1}) (fun _=>rfl) rfl id (fun h=>⟨h,rfl⟩);rw[show(((t.tab i).fails+1:Nat):Int)=((t.tab i).fails:Int)+1 from ab]at s1 s2;obtain⟨cT,Ja⟩:=hfz.kind;have hRT:R≠T:=fun e=>by
   have:=Vf.o;rw[e,Ja]at this;cases this
  have MW:=O (s2.keep Vf.o (fun e=>hRT e));have HK5:=O (Sx.o.tabs Ja s2);have HS1:=O s1;clear hfz p1 s1 s2 Ja Sk Vf Sx;by_cases h3:((t.tab i).fails:Int)+1<=3
  ·as_aux_lemma =>
    have HE:=O (show jt t i=(t.put i {t.tab i with fails:=(t.tab i).fails+1,does:=1},rep 0,false)by unfold jt;rw[aq hv,az ab]);obtain⟨b1,b2⟩:=HS1.o.Xh HI.o (j:=0) ag (.int .i64 1) (x:={t.tab i with fails:=(t.tab i).fails+1,does:=1}) (fun _=>by rw[ma];rfl) (by rw[ma]) (fun _=>by rw[ma];show(t.tab i).does≠0;rw[HD.o];decide) (fun h=>by simp at h);rw[aa0,show 17+i*45+0=17+i*45 from rfl]at b1
    rw[show 17+i*45+0=17+i*45 from rfl]at b2;have Tg:=O b1;obtain⟨cT5,akD⟩:=HS1.o.kind;have JA:=O (b2.keep MW.o (fun e=>hRT e));have HK6:=O (HK5.o.tabs akD b2);obtain⟨B5,g5,sv5,sb5,p5, -⟩:=HS1.o.ex;have c0:=p5.tab i HI.o 0 _ rfl;rw[show 17+i*45+0=17+i*45 from rfl]at c0;have f0:=p5.free (17+i*45);clear hv b1 b2 akD p5 HS1 MW HK5
    go_wp2_with (first|((with_reducible refine cW 30 ?_);refine aF rfl 30 (.tmp 6) (.tmp 53) rfl R #[.int .i64 0,.string ⟨#[]⟩,.int .i64 0] rfl rfl _ bT JA.o (bf _ rfl) rfl bW ?_)|fail)
    refine aU (jv bC _ _ R 30 #[.int .i64 0,.string ⟨#[]⟩,.int .i64 0] (0,0) _ rfl (aY _ R _ _ _ _ JA.o) underlying30 rfl (bf _ rfl)) rfl ?_;rw[HE.o];exact CO Tg.o HK6.o Yp.o Yq.o JA.o _ rfl
  ·as_aux_lemma =>
    have HE:=O (show jt t i=(lW (t.put i {t.tab i with fails:=(t.tab i).fails+1}) i (rep 6),rep 6,true)by unfold jt;rw[aq hv,aq ab]);have HEN:=O (Ex HS1.o HI.o (rep 6) (by rw[ma];show(t.tab i).does≠0;rw[HD.o];decide) HL.o);clear hv;go_wp2_with fail
    refine HEN.o.mono ?_;rintro e u5⟨rfl,z1,z2⟩;have JA:=O (z2.block MW.o mK);have Qx:=O z1;have HZ2:=O (HK5.o.trans z2);clear z1 z2;go_wp2_with (first|((with_reducible refine cW 30 ?_);refine aF rfl 30 (.tmp 6) (.tmp 59) rfl R #[.int .i64 6,.string ⟨#[]⟩,.int .i64 0] rfl rfl _ bT JA.o (bf _ rfl) rfl bW ?_)|fail)
    refine aU (jv bC _ _ R 30 #[.int .i64 6,.string ⟨#[]⟩,.int .i64 0] (0,0) _ rfl (aY _ R _ _ _ _ JA.o) underlying30 rfl (bf _ rfl)) rfl ?_;rw[HE.o];exact CO Qx.o HZ2.o Yp.o Yq.o JA.o _ rfl
end
section
variable {xw : Option (Nat × dI)} {a U U' : World} {T : Nat} {t : iy}
def nE(xw:Option (Nat×dI))(a U:World)(T:Nat)(r:iy×(kI×Bool×Nat))(e:Ending)(w':World):Prop :=
 e=.returned (.tuple #[.agg #[.int .i64 r.2.1.what,.string r.2.1.head,.int .i64 r.2.1.cert],.bool r.2.2.1,xi r.2.2.2])/\cO xw a w' T r.1/\gR U w'
theorem step_end{r:kI×Bool×Nat}(h:cO xw a W T t')(hk:gR U W)(hR:U.heap.size<=R)(ha:a.heap.size<=R)(hr:W.heap[R]?=some (.cells bT 30 (0,0)))(cs:bS)(he:e=.returned (.tuple #[.agg #[.int .i64 r.1.what,.string r.1.head,.int .i64 r.1.cert],.bool r.2.1,xi r.2.2])):nE xw a U T (t',r) e (W.setRow R cs) :=
 ⟨he,h.far ((ae (one R) _).setRow (fun _=>rfl) _) (fun n hn=>by have e':n=R:=hn;omega) (fun n hn=>by cases(show n=R from hn);exact⟨_,_,hr,I2⟩),hk.new ((ae (one R) _).setRow (fun _=>rfl) _) hR⟩
def aa4(a:World)(x:dI)(op:iY):Prop:=∀(V:World) (B:Nat) (pv:Nat->cV) (o:jQ) (hs:List ig),o.dR hs=op->cD a.heap.size V B pv x->Fr aS a V->gI V o hs ->
 aB 14 #[.pointer (some ⟨B,0,none⟩),.agg o.cells.toArray] V fun e w'=>e=.returned (.agg #[.int .i64 (ku x op).2.what,.string (ku x op).2.head,.int .i64 (ku x op).2.cert])/\dn a.heap.size V B pv (ku x op).1 w'
theorem cO.tick(h:cO xw a U T t)(k:Int):cO xw a (U.setCell ⟨T,287,none⟩ (.int .i64 k)) T {t with steps:=k}/\Fr (one T) U (U.setCell ⟨T,287,none⟩ (.int .i64 k)):=by
 obtain⟨B,g,sv,sb,h1,h2,h3,h4⟩:=h.ex;have q:=h1.Eo k;exact⟨kF (t':={t with steps:=k}) h1 h2 h3 h4 h.low h.fr q rfl (fun _ _ hp=>hp) (fun j hj=>⟨fun hd=>Or.inl ⟨rfl,rfl,rfl,hd⟩,(h4 j hj).2⟩),q.2⟩
theorem cO.cells(h:cO xw a U T t)(hi:i<6):U.cell? ⟨T,17+i*45,none⟩=some (.int .i64 (t.tab i).does)/\U.cell? ⟨T,287,none⟩=some (.int .i64 t.steps)/\(∀k,U.frozen? ⟨T,k,none⟩=false)/\U.rangeAt T 1 (lh t.num)/\(∀o n,o+n<=289->U.there T o n):=by
 obtain⟨B,g,sv,sb,h1,h2,h3,h4⟩:=h.ex;exact⟨h1.tab i hi 0 _ rfl,h1.steps,fun k=>h1.free k,h1.num,fun o n hn=>h1.there hn⟩
theorem Jb{b o:Nat}{p r:aX}(h:U.rangeAt b o (p++(q++r)))(hl:q'.length=q.length)(ht:U.there b (o+p.length) q'.length):(U.setCells b (o+p.length) q').rangeAt b o (p++(q'++r)):=fun j v hj=>by
 by_cases h1:j<p.length
 ·rw[List.getElem?_append_left h1]at hj;rw[World.cell?_setCells_out b q' _ U ⟨b,o+j,none⟩ (fun _ _=>Or.inl (show o+j<o+p.length from ab))];exact h j v (by rw[List.getElem?_append_left h1];exact hj)
 ·by_cases h2:j<p.length+q'.length
  ·rw[List.getElem?_append_right ab,List.getElem?_append_left ab]at hj;have:=World.rangeAt_setCells_same U b (o+p.length) q' ht (j-p.length) v hj
   rwa [show o+p.length+(j-p.length)=o+j from ab]at this
  ·rw[List.getElem?_append_right ab,List.getElem?_append_right ab]at hj;rw[World.cell?_setCells_out b q' _ U ⟨b,o+j,none⟩ (fun _ _=>Or.inr (show o+p.length+q'.length<=o+j from ab))];exact h j v (by rw[List.getElem?_append_right ab,List.getElem?_append_right ab, <-hl];exact hj)
theorem gj.Xo(h:gj U T B g sv t)(hn:n<6){p r:aX}{w:qI}(hx:mV (t.tab n) (g n)=p++(q++r))(hl:q'.length=q.length)(Ug:mV x w=p++(q'++r)) :
  gj (U.setCells T (17+n*45+p.length) q') T B (fun i=>if i=n then w else g i) sv (t.put n x)/\Fr (one T) U (U.setCells T (17+n*45+p.length) q'):=by
 have hlen:p.length+q'.length<=45:=by
  have:=qq x w;rw[Ug]at this;simp at this;omega
 refine⟨⟨lO T _ _ q' _ _ h.eL,eU h.main (Or.inl ab),bZ h.num T _ q' (Or.inr (Or.inl (by rw[nD];omega))),fun m hm=>?_,eU h.steps (Or.inr ab),eU h.st (Or.inr ab)⟩,mJ T q' _ _ (ae _ _)⟩;by_cases e:m=n
 ·subst e;show World.rangeAt _ T (17+m*45) (mV (if m=m then x else t.tab m) (if m=m then w else g m));rw[az rfl,az rfl,Ug];have:=h.tab m hm;rw[hx]at this;exact Jb this hl (h.there ab)
 ·show World.rangeAt _ T (17+m*45) (mV (if m=n then x else t.tab m) (if m=n then w else g m));rw[aq e,aq e];exact bZ (h.tab m hm) T _ q' (by
   right;rw[qq];rcases fH m n with q|q
   ·left;omega
   ·right;omega)
theorem EA{P:Program}{ops:Array Oper}{a:Act}{w:World}{K:Act->World->Prop}{Q:Exit->Act->World->Prop}{E:Prop}{op:Oper}(yN:op.guard=none)(ty:TypeId)(x y:Operand)(ho:op.op=.store ty x y)
  (b o:Nat)(v:Value)(hx:a.eval x=.pointer (some ⟨b,o,none⟩))(hy:a.eval y=v)(hv:v.cells= #[v])
  (ht:w.there b o 1)(hi:(P.info? ty).map (·.size)=some 1)(h1:v.oneCell'=true)
  (h:K (a.put op.dst undef) (w.setCell ⟨b,o,none⟩ v)):if Region.wanted op (yielded ops a.tmps)=true then Oper.wp P op a w K Q else E:=by
 have hw:Region.wanted op (yielded ops a.tmps)=true:=by simp[Region.wanted,yN]
 rw[az hw];have hr:(storeVar ty ⟨b,o,none⟩ v).run P w=.ok () (w.setCells b o [v]):=by
  have e:storeVar ty ⟨b,o,none⟩ v=storeVar ty ⟨b,o,none⟩ (.agg #[v]):=by
   unfold storeVar;rw[hv];rfl
  rw[e];exact run_storeVar_mid w b o ty #[v] ht hi (by simp[h1])
 unfold Oper.wp execOp;simp only[ho,hx,hy,Instr.storeAt,Instr.sureAddr,Sem.run_bind,Sem.run_pure,Result.andThen_ok,hr];exact h
theorem Xp(r:kI):(qp r).toArray.all (·.oneCell')=true :=
 bX (by
  intro u hu;unfold qp at hu;simp only[bB,cz,dX]at hu;rcases hu with rfl|rfl|rfl<;>rfl)
theorem Xq(f:Nat->Nat->Int):(lh f).toArray.all (·.oneCell')=true :=
 bX (by
  intro u hu;unfold lh at hu;simp only[bB,cz,dX]at hu;rcases hu with rfl|rfl|rfl|rfl|rfl|rfl|rfl|rfl|rfl|rfl|rfl|rfl|rfl|rfl|rfl|rfl<;>rfl)
theorem cO.asm{c:bS}(hb:gj W T B g sv t)(hw:xj a.heap.size U (oA xw B sb t))(he:qQ a.heap.size U sv t.gz)(ho:∀n,n<6->(t.tab n).does≠0->kp a.heap.size U ((g n).o,(g n).hs) (t.tab n).op)(hp:∀n,n<6->(t.tab n).does=2\/(t.tab n).does=3->(g n).sp=.pointer (some ⟨sb n,0,none⟩))(hc:U.heap[T]?=some (.cells c 75 (0,0)))(hF:Fr (one T) U W)(lo:a.heap.size<=T)(cL:Fr aS a U):cO xw a W T t :=
 ⟨⟨B,g,sv,sb,hb,hw.one lo hc rz.1 rz.2 ag hF,he.one hc ag ag hF,fun n hn=>⟨fun hd=>(ho n hn hd).one hc ag hF,hp n hn⟩⟩,lo,cL.step hF fun k hk e=>by
  have:k=T:=e;omega⟩
theorem SM{B C:Nat}{g:Nat->qI}{sv:Value}{sb:Nat->Nat}{i:Nat}{qv:Nat->cV}(hi:i<6)(h1:gj U T B g sv t)(h2:xj a.heap.size U (oA xw B sb t))(h3:qQ a.heap.size U sv t.gz)
  (h4:∀n,n<6->((t.tab n).does≠0->kp a.heap.size U ((g n).o,(g n).hs) (t.tab n).op)/\((t.tab n).does=2\/(t.tab n).does=3->(g n).sp=.pointer (some ⟨sb n,0,none⟩)))(hd:(t.tab i).does≠0)(lo:a.heap.size<=T)(cL:Fr aS a U)
  (hF:Fr aS U U')(hc:cD a.heap.size U' C qv t.w)(hn:∀j,lN C qv j->U.heap.size<=j) :
  cO xw a (((U'.setCell ⟨T,17+i*45+25,none⟩ (.pointer (some ⟨C,0,none⟩))).setCells T (17+i*45+26) (lh t.num)).setCell ⟨T,17+i*45,none⟩ (.int .i64 2)) T (t.put i {t.tab i with seen:=t.w,num:=t.num,does:=2})/\Fr (one T) U' (((U'.setCell ⟨T,17+i*45+25,none⟩ (.pointer (some ⟨C,0,none⟩))).setCells T (17+i*45+26) (lh t.num)).setCell ⟨T,17+i*45,none⟩ (.int .i64 2))/\((U'.setCell ⟨T,17+i*45+25,none⟩ (.pointer (some ⟨C,0,none⟩))).setCells T (17+i*45+26) (lh t.num)).cell? ⟨T,17+i*45,none⟩=some (.int .i64 (t.tab i).does)/\(∀k,((U'.setCell ⟨T,17+i*45+25,none⟩ (.pointer (some ⟨C,0,none⟩))).setCells T (17+i*45+26) (lh t.num)).frozen? ⟨T,k,none⟩=false)/\(U'.setCell ⟨T,17+i*45+25,none⟩ (.pointer (some ⟨C,0,none⟩))).there T (17+i*45+26) 16:=by
 have b1:=h1.fr hF id;have w1:xj a.heap.size U' (oA xw B (fun j=>if j=i then C else sb j) (t.put i {t.tab i with seen:=t.w,num:=t.num,does:=2})):=by
  refine(h2.add hF (i:=i) hc hn).sub fun j p hp=>?_;by_cases e:j=i
  ·subst e;rw[az rfl];unfold oA at hp;rw[aq ab,aq ab]at hp;simpa[iy.put,hi]using hp
  ·rw[aq e];unfold oA at hp ⊢;by_cases e6:j=6
   ·rw[az e6]at hp ⊢;exact hp
   ·rw[aq e6]at hp ⊢;simpa[iy.put,e]using hp
 have q1:=b1.CM hi (j:=25) ag (.pointer (some ⟨C,0,none⟩)) (x:=t.tab i) (w:={g i with sp:=.pointer (some ⟨C,0,none⟩)}) rfl;have q2:=q1.1.Xo (n:=i) hi (x:={t.tab i with num:=t.num}) (w:={g i with sp:=.pointer (some ⟨C,0,none⟩)})
  (p:=.int .i64 (t.tab i).does :: ((g i).o.cells++[.int .i64 (t.tab i).fails,.int .i64 (t.tab i).mY,.pointer (some ⟨C,0,none⟩)])) (q:=lh (t.tab i).num) (q':=lh t.num) (r:=qp (t.tab i).jm)
  (by simp only[ma,ef];rfl) rfl rfl
 have q3:=q2.1.CM hi (j:=0) ag (.int .i64 2) (x:={t.tab i with num:=t.num,does:=2}) (w:={g i with sp:=.pointer (some ⟨C,0,none⟩)}) (by simp only[ma,ef];rfl);have EW:=(q1.2.trans q2.2).trans q3.2;obtain⟨c,Ja,_⟩:=b1.eL;refine⟨?_,EW,?_,q2.1.free,q1.1.there ab⟩
 ·refine cO.asm (q3.1.same (t':=t.put i {t.tab i with seen:=t.w,num:=t.num,does:=2}) rfl (fun n hn=>?_) rfl) w1 (h3.kept (ju hF)) (fun n hn sM=>?_) (fun n hn sM=>?_) Ja EW lo (cL.trans hF)
  ·by_cases e:n=i
   ·subst e;simp only[ma,ef];rfl
   ·simp[iy.put,e]
  ·by_cases e:n=i
   ·subst e;simp only[ma,ef];exact((h4 n hn).1 hd).kept (ju hF)
   ·simp only[iy.put,aq e]at sM ⊢;exact((h4 n hn).1 sM).kept (ju hF)
  ·by_cases e:n=i
   ·subst e;simp
   ·simp only[iy.put,aq e]at sM ⊢;exact(h4 n hn).2 sM
 ·exact q2.1.tab i hi 0 (.int .i64 (t.tab i).does) (by simp only[ma,ef];rfl)
theorem SN{x':dI}(r:kI)(hi:i<6)(h1:gj U T B g sv t)(h2:xj a.heap.size U (oA xw B sb (t.put i {t.tab i with seen:=x'})))(h3:qQ a.heap.size U sv t.gz)(h4:∀n,n<6->(t.tab n).does≠0->kp a.heap.size U ((g n).o,(g n).hs) (t.tab n).op)(h5:∀n,n<6->(t.tab n).does=2\/(t.tab n).does=3->(g n).sp=.pointer (some ⟨sb n,0,none⟩))(hd:(t.tab i).does=2)(lo:a.heap.size<=T)(cL:Fr aS a U) :
  cO xw a ((U.setCells T (17+i*45+42) (qp r)).setCell ⟨T,17+i*45,none⟩ (.int .i64 3)) T (t.put i {t.tab i with jm:=r,seen:=x',does:=3})/\Fr (one T) U ((U.setCells T (17+i*45+42) (qp r)).setCell ⟨T,17+i*45,none⟩ (.int .i64 3))/\(U.setCells T (17+i*45+42) (qp r)).cell? ⟨T,17+i*45,none⟩=some (.int .i64 (t.tab i).does)/\(∀k,(U.setCells T (17+i*45+42) (qp r)).frozen? ⟨T,k,none⟩=false)/\U.there T (17+i*45+42) 3:=by
 have q2:=h1.Xo (n:=i) hi (x:={t.tab i with jm:=r}) (w:=g i)
  (p:=.int .i64 (t.tab i).does :: ((g i).o.cells++(.int .i64 (t.tab i).fails :: .int .i64 (t.tab i).mY :: (g i).sp :: lh (t.tab i).num))) (q:=qp (t.tab i).jm) (q':=qp r) (r:=[])
  rfl rfl rfl
 have q3:=q2.1.CM hi (j:=0) ag (.int .i64 3) (x:={t.tab i with jm:=r,does:=3}) (w:=g i) (by simp only[ma,ef];rfl);have EW:=q2.2.trans q3.2;obtain⟨c,Ja,_⟩:=h1.eL;refine⟨?_,EW,?_,q2.1.free,h1.there ab⟩
 ·refine cO.asm (q3.1.same (t':=t.put i {t.tab i with jm:=r,seen:=x',does:=3}) rfl (fun n hn=>?_) rfl) (h2.sub (Ou rfl fun n hn sM=>?_)) h3 (fun n hn sM=>?_) (fun n hn sM=>?_) Ja EW lo cL
  ·by_cases e:n=i
   ·subst e;simp only[ma,ef];rfl
   ·simp[iy.put,e]
  ·by_cases e:n=i
   ·subst e;simp[iy.put,hd]
   ·simp only[iy.put,aq e]at sM ⊢;exact⟨sM,trivial⟩
  ·by_cases e:n=i
   ·subst e;simp only[ma,ef];exact h4 n hn ab
   ·simp only[iy.put,aq e]at sM ⊢;exact h4 n hn sM
  ·by_cases e:n=i
   ·subst e;simp only[ef];exact h5 n hn (Or.inl hd)
   ·simp only[iy.put,aq e]at sM ⊢;exact h5 n hn sM
 ·exact q2.1.tab i hi 0 (.int .i64 (t.tab i).does) (by simp only[ma,ef];rfl)
end
