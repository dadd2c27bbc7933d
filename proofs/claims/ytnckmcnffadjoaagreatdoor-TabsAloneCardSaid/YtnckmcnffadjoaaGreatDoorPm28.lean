/- Lemmas for the law's walk. -/
import Derived.Test.YtnckmcnffadjoaaGreatDoorPm18
set_option maxRecDepth 100000
set_option maxHeartbeats 16000000
set_option linter.unusedSimpArgs false
namespace Go.Proofs.YtnckmcnffadjoaaGreatDoor
open Go.Proofs.Tryz
open Go.RowKit
variable {k g T ch:Nat} {v:Value} {S:dC} {V U:World} {cs:aX} {o:iY} {ah:eV}
theorem SB:(prog.info? 171).map (fun i=>(i.zero,i.size,i.bytes))=some (some (.agg #[.string ⟨#[]⟩,.string ⟨#[]⟩]),2,32):=af
theorem Ad{ops:Array Oper}{rest:List Oper}{o:Oper}{a:Act}{Q:Exit->Act->World->Prop}{w:World}(yN:o.guard=none)(s x:Operand)
  (ho:o.op=.call {callee:=.builtin .append,args:= #[s,x],argTypes:= #[35,35]})(base:Nat)(v:Value)(l:cZ)(hs:a.eval s=v)(cR:OwnRows base 171 2 w v l)
  (vx:Value)(m:cZ)(hx:a.eval x=vx)(hm:dY 2 w vx m)(hlen:l.length+m.length<1000000000)(iE:base<=w.heap.size)
  (h:∀v' w',OwnRows base 171 2 w' v' (l++m)->w.grownBy w' v.ownBlock->wpList prog ops Q rest (a.put o.dst v') w'):wpList prog ops Q (o :: rest) a w:=by
 obtain⟨i0,hi,po,k_,lp⟩:=info_parts SB;obtain⟨ax,cx,fJ⟩:=hm.form;have HM:=hm.1;cases ax with
 |none =>
  obtain⟨YO,h2⟩:m=[]/\cx=0:=by
   rcases hm.2 with ⟨a',c',hv,hs,hc⟩|⟨bk,o',c,hf,_⟩
   ·rw[fJ]at hv;injection hv with e1 e2 e3
    exact⟨hs,e3.trans (hc e1.symm)⟩
   ·rw[fJ]at hf;injection hf with e1;cases e1
  subst YO;have Ug:a.eval x=.slice none 0 0:=by rw[hx,fJ,h2];rfl
  refine wpList_append_own_none yN s x 35 ho base 171 i0 2 underlying35 hi v l.length l.flatten hs cR.2 Ug ?_;exact h v w (by rw[dV];exact cR) ⟨rfl,rfl,rfl,ay _,fun _ _ _=>rfl⟩
 |some ad =>
  have zC:m.flatten.length=m.length*2:=gD (fun x hx=>(HM x hx).1);refine wpList_append_own w yN s x 35 ho base 171 i0 (.agg #[.string ⟨#[]⟩,.string ⟨#[]⟩]) 2 32 underlying35 hi po k_ lp rfl ag v l.length l.flatten hs cR.2 ad m.length cx m.flatten (hx.trans fJ) zC ?_ ?_ ?_ ?_ iE ?_
  ·intro j u hj;rcases hm.2 with ⟨_,_,_,e,_⟩|⟨bk,o',c,hf,g1,g2,g3,g4⟩
   ·subst e;simp at hj
   ·rw[hf]at fJ;cases fJ;have hjl:=(List.getElem?_eq_some_iff.1 hj).1;have hd:j/2<m.length:=ab;have hmo:j%2<2:=ab;have ow:(m[j/2]).length=2:=(HM _ (bN hd)).1;have e1:=rD (k:=2) (xs:=m) (fun x hx=>(HM x hx).1) (j:=j/2) (List.getElem?_eq_getElem hd) (i:=j%2) (List.getElem?_eq_getElem (by rw[ow];exact hmo));rw[Nat.div_add_mod']at e1;rw[e1]at hj;cases hj
    have:=g4 (j/2) _ (List.getElem?_eq_getElem hd) (j%2) _ (List.getElem?_eq_getElem (by rw[ow];exact hmo));have ea:(Addr.add ⟨bk,o',none⟩ j)=⟨bk,o'+j,none⟩:=by unfold Addr.add;split<;>simp_all
    rw[ea, <-this]
    congr 2
    omega
  ·intro u hu;obtain⟨y,hy,huy⟩:=fL.1 hu;exact(HM y hy).2 u huy
  ·unfold maxLen;omega
  ·omega
  ·intro v' w' h1 h2 _;refine h v' w' ⟨fun y hy=>?_,by simpa using h1⟩ h2;rcases bR.1 hy with hy|hy
   ·exact cR.1 y hy
   ·exact HM y hy
theorem Bt(w:World)(o:jQ)(hs:List ig)(hf:gI w o hs) :
  aB 11 #[.agg o.cells.toArray] w fun e w'=>e=.returned (.tuple #[.int .i64 ((dp (o.dR hs)).1:Nat),.bool (dp (o.dR hs)).2])/\Fr aS w w':=by
 obtain⟨ah,ch,gH⟩:=hf.gZ;obtain⟨w2,eE⟩:∃w2,w2=w.alloc (.cells o.cells.toArray 41):=⟨_,rfl⟩;have dB:Fr aS w w2:=by rw[eE];exact(ae aS w).alloc _
 have k1:w2.heap[w.heap.size]?=some (.cells o.cells.toArray 41 (0,0)):=by rw[eE];exact aC _ _
 have tE:=O (lu o hs w2 (hf.dm dB));obtain⟨a0,a1,a2,a3,a4,a5,a6,a7,a8,a9,jI,jJ,a12,jG,jK,jo,jV,jW,jX,ka,a20,a21⟩:=ep k1 gH;have mN:=O k1;have lD:=O gH;have f_:=O dB;rw[eE]at a0 a1 a2 a3 a4 a5 a6 a7 a8 a9 jI jJ a12 jG jK jo jV jW jX ka a20 a21;rw[d_ gH]at eE tE a0 a1 a2 a3 a4 a5 a6 a7 a8 a9 jI jJ a12 jG jK jo jV jW jX ka a20 a21 ⊢;have nI:=O eE;clear eE gH dB k1 hf;go_enter func11,ntmps11
 have vt:=O (aC w (.cells #[.int .i64 o.what,.int .i64 o.aJ.part,.bool o.aJ.cX.aE,.string o.aJ.cX.host,.int .i64 o.aJ.cX.port,.bool o.aJ.o.aE,.string o.aJ.o.host,.int .i64 o.aJ.o.port,.string o.aJ.path,.string o.aJ.query,.string o.aJ.method,.slice ah hs.length ch,.bool o.aJ.fN,.string o.aJ.body,.bool o.proxy,.string o.text,.string o.user,.string o.pass,.string o.bL,.int .i64 o.cert,.bool o.all,.int .i64 o.n] 41))
 go_wp2_with (first|((with_reducible refine di 4 ?_);refine aH rfl 41 (.tmp 1) rfl w.heap.size rfl _ #[.int .i64 o.what,.int .i64 o.aJ.part,.bool o.aJ.cX.aE,.string o.aJ.cX.host,.int .i64 o.aJ.cX.port,.bool o.aJ.o.aE,.string o.aJ.o.host,.int .i64 o.aJ.o.port,.string o.aJ.path,.string o.aJ.query,.string o.aJ.method,.slice ah hs.length ch,.bool o.aJ.fN,.string o.aJ.body,.bool o.proxy,.string o.text,.string o.user,.string o.pass,.string o.bL,.int .i64 o.cert,.bool o.all,.int .i64 o.n] (0,0) _ vt.o underlying41 rfl af ?_)|fail)
 rw[<-nI.o];refine tE.o.mono ?_;rintro e u⟨rfl,hu⟩;clear a0 a1 a2 a3 a4 a5 a6 a7 a8 a9 jI jJ a12 jG jK jo jV jW jX ka a20 a21 tE;obtain⟨a0,a1,a2,a3,a4,a5,a6,a7,a8,a9,jI,jJ,a12,jG,jK,jo,jV,jW,jX,ka,a20,a21⟩:=ep (hu.keep mN.o id) lD.o;have HU:=O (f_.o.trans hu);clear hu;cases hr:(o.dR hs).right
 ·have HC:=O (show dp (o.dR hs)=(0,false)by unfold dp;rw[hr];rfl);clear hr;go_wp2;go_ret2;rw[HC.o];exact⟨rfl,HU.o⟩
 ·have WX:=hr;unfold iY.right at WX;simp only[cF,dG]at WX;have oy:1<=o.what:=WX.1;have aqe:o.what<=10:=WX.2.1;clear WX;have HC:=O (show dp (o.dR hs)=if o.what=1\/o.what=2\/o.what=3\/o.what=8 then(1,true)else if o.what=4 then(10,false)else if o.what=5 then(10,true)else if o.what=6 then(4,false)else if o.what=7 then(4,true)else if o.what=10 then(8,true)else(7,true)by unfold dp;rw[hr];rfl);clear hr
  have hq:o.what=1\/o.what=2\/o.what=3\/o.what=4\/o.what=5\/o.what=6\/o.what=7\/o.what=8\/o.what=9\/o.what=10:=ab;clear oy aqe;rcases hq with hq|hq|hq|hq|hq|hq|hq|hq|hq|hq
  ·as_aux_lemma =>
    rw[hq]at a0 HC;have wV:=O (HC.o.trans (by first|rfl|decide));clear HC;have HQ:=O hq;clear hq;go_wp2;go_ret2;rw[wV.o];exact⟨rfl,HU.o⟩
  ·as_aux_lemma =>
    rw[hq]at a0 HC;have wV:=O (HC.o.trans (by first|rfl|decide));clear HC;have HQ:=O hq;clear hq;go_wp2;go_ret2;rw[wV.o];exact⟨rfl,HU.o⟩
  ·as_aux_lemma =>
    rw[hq]at a0 HC;have wV:=O (HC.o.trans (by first|rfl|decide));clear HC;have HQ:=O hq;clear hq;go_wp2;go_ret2;rw[wV.o];exact⟨rfl,HU.o⟩
  ·as_aux_lemma =>
    rw[hq]at a0 HC;have wV:=O (HC.o.trans (by first|rfl|decide));clear HC;have HQ:=O hq;clear hq;go_wp2;go_ret2;rw[wV.o];exact⟨rfl,HU.o⟩
  ·as_aux_lemma =>
    rw[hq]at a0 HC;have wV:=O (HC.o.trans (by first|rfl|decide));clear HC;have HQ:=O hq;clear hq;go_wp2;go_ret2;rw[wV.o];exact⟨rfl,HU.o⟩
  ·as_aux_lemma =>
    rw[hq]at a0 HC;have wV:=O (HC.o.trans (by first|rfl|decide));clear HC;have HQ:=O hq;clear hq;go_wp2;go_ret2;rw[wV.o];exact⟨rfl,HU.o⟩
  ·as_aux_lemma =>
    rw[hq]at a0 HC;have wV:=O (HC.o.trans (by first|rfl|decide));clear HC;have HQ:=O hq;clear hq;go_wp2;go_ret2;rw[wV.o];exact⟨rfl,HU.o⟩
  ·as_aux_lemma =>
    rw[hq]at a0 HC;have wV:=O (HC.o.trans (by first|rfl|decide));clear HC;have HQ:=O hq;clear hq;go_wp2;go_ret2;rw[wV.o];exact⟨rfl,HU.o⟩
  ·as_aux_lemma =>
    rw[hq]at a0 HC;have wV:=O (HC.o.trans (by first|rfl|decide));clear HC;have HQ:=O hq;clear hq;go_wp2;go_ret2;rw[wV.o];exact⟨rfl,HU.o⟩
  ·as_aux_lemma =>
    rw[hq]at a0 HC;have wV:=O (HC.o.trans (by first|rfl|decide));clear HC;have HQ:=O hq;clear hq;go_wp2;go_ret2;rw[wV.o];exact⟨rfl,HU.o⟩
theorem rW{P:Program}{ops:Array Oper}{a:Act}{w:World}{K:Act->World->Prop}{Q:Exit->Act->World->Prop}{E:Prop}{op:Oper}(yN:op.guard=none)(ty:TypeId)(x y:Operand)(ho:op.op=.store ty x y)
  (b o:Nat)(cells:bS)(hx:a.eval x=.pointer (some ⟨b,o,none⟩))(hy:a.eval y=.agg cells)
  (ht:w.there b o cells.size)(hi:(P.info? ty).map (·.size)=some cells.size)(h1:cells.all (·.oneCell')=true)
  (h:K (a.put op.dst undef) (w.setCells b o cells.toList)):if Region.wanted op (yielded ops a.tmps)=true then Oper.wp P op a w K Q else E:=by
 have hw:Region.wanted op (yielded ops a.tmps)=true:=by simp[Region.wanted,yN]
 rw[az hw];exact wp_store_mid ty x y ho b o cells hx hy ht hi h1 h
section
variable {xw : Option (Nat × dI)} {a U U' : World} {T : Nat} {t : iy}
def aft(o:jQ)(hs:List ig)(a9:eV)(c9:Nat)(t:iy)(T N:Nat)(V:World):Prop:=V.rangeAt N 0 [.int .i64 o.what,.int .i64 o.aJ.part,.bool o.aJ.cX.aE,.string o.aJ.cX.host,.int .i64 o.aJ.cX.port,.bool o.aJ.o.aE,.string o.aJ.o.host,.int .i64 o.aJ.o.port,.string o.aJ.path,.string o.aJ.query,.string o.aJ.method,.slice a9 hs.length c9,.bool o.aJ.fN,.string o.aJ.body,.bool o.proxy,.string o.text,.string o.user,.string o.pass,.string o.bL,.int .i64 o.cert,.bool o.all,.int .i64 o.n]/\V.cell? ⟨T,287,none⟩=some (.int .i64 (t.steps+1))
theorem dY.fr1{w w':World}{xs:cZ}(h:dY k w v xs)(hf:Fr S w w')(hn:xs≠ []->∀b,v.ownBlock=some b->¬S b):dY k w' v xs:=by
 by_cases e:xs=[]
 ·subst e;rcases h.2 with ⟨a,c,e1,_,e3⟩|⟨bk,o,c,e1,h1,h2,h3,h4⟩
  ·exact⟨h.1,Or.inl ⟨a,c,e1,rfl,e3⟩⟩
  ·exact⟨h.1,Or.inr ⟨bk,o,c,e1,h1,h2,cP h3 hf.size,fun j x hx=>by simp at hx⟩⟩
 ·exact h.fr hf (hn e)
theorem Cb{N:Nat}{e:TypeId}(h:V.heap[N]?=some (.cells cs.toArray e (0,0))):V.rangeAt N 0 cs:=fun j v hv=>by
 rw[bw];simp only[World.cell?,h];simpa using hv
theorem aaL{x1 W:World}{o:jQ}{hs:List ig}{a9:eV}{c9 i N:Nat}(hi:i<6)(aaM:cO xw a W T {t with steps:=t.steps+1})(HO:gI x1 o hs)(hNT:N≠T)(hd:(t.tab i).does=0)
  (hk9:W.heap[N]?=some (.cells (jQ.cells {o with aJ:={o.aJ with ey:=.slice a9 hs.length c9}}).toArray 41 (0,0)))(aaN:OwnRows a.heap.size 171 2 W (.slice a9 hs.length c9) (hs.map ig.cells)) :
  aft o hs a9 c9 t T N W.drew/\W.drew.there T (17+i*45) 45/\aft o hs a9 c9 t T N (W.drew.setCells T (17+i*45) (mV {fX with does:=1,op:=o.dR hs,mY:=t.steps+1} ⟨{o with aJ:={o.aJ with ey:=.slice a9 hs.length c9}},hs,.pointer none⟩))/\cO xw a (W.drew.setCells T (17+i*45) (mV {fX with does:=1,op:=o.dR hs,mY:=t.steps+1} ⟨{o with aJ:={o.aJ with ey:=.slice a9 hs.length c9}},hs,.pointer none⟩)) T {(t.put i {fX with does:=1,op:=o.dR hs,mY:=t.steps+1})with steps:=t.steps+1}/\gR W (W.drew.setCells T (17+i*45) (mV {fX with does:=1,op:=o.dR hs,mY:=t.steps+1} ⟨{o with aJ:={o.aJ with ey:=.slice a9 hs.length c9}},hs,.pointer none⟩)):=by
 have afu:=aaM.dm (aA (ae aS W));have aks:=aaN.fr (aA (ae aS W)) (fun _ _ h=>h);obtain⟨B2,g2,sv2,sb2,h1,h2,h3,h4⟩:=afu.ex;have c3:=h1.steps;have akt:W.drew.heap[N]?=some (.cells (jQ.cells {o with aJ:={o.aJ with ey:=.slice a9 hs.length c9}}).toArray 41 (0,0)):=hk9;have q2:=h1.Oq hi {fX with does:=1,op:=o.dR hs,mY:=t.steps+1} ⟨{o with aJ:={o.aJ with ey:=.slice a9 hs.length c9}},hs,.pointer none⟩
 refine⟨?_,h1.there ab,?_,?_,?_⟩
 ·exact⟨Cb (cs:=jQ.cells {o with aJ:={o.aJ with ey:=.slice a9 hs.length c9}}) akt,c3⟩
 ·exact⟨Cb (cs:=jQ.cells {o with aJ:={o.aJ with ey:=.slice a9 hs.length c9}}) (q2.2.keep akt (fun e=>hNT e)),q2.1.steps⟩
 ·exact kF (t':={(t.put i {fX with does:=1,op:=o.dR hs,mY:=t.steps+1})with steps:=t.steps+1}) h1 h2 h3 h4 afu.low afu.fr q2 rfl (Ov (t':={(t.put i {fX with does:=1,op:=o.dR hs,mY:=t.steps+1})with steps:=t.steps+1}) rfl i (fun n hn=>aq hn) (by simp[iy.put]) (by simp[iy.put])) (fun j hj=>by
   by_cases ei:j=i
   ·subst ei;simp only[iy.put,ef];exact⟨fun _=>Or.inr ⟨{HO with ey:=aks.at},rfl,aks⟩,fun e=>by simp at e⟩
   ·simp only[iy.put,aq ei];exact⟨fun sM=>Or.inl ⟨trivial,trivial,trivial,sM⟩,(h4 j hj).2⟩)
 ·obtain⟨d,hdd,_⟩:=h1.eL;exact(eJ (aA (ae aS W))).tabs hdd q2.2
theorem WV(o:jQ)(hs:List ig)(a9:eV)(c9:Nat)(st:Int):prog.built 72 [(0,.int .i64 1),(1,.agg #[.int .i64 o.what,.int .i64 o.aJ.part,.bool o.aJ.cX.aE,.string o.aJ.cX.host,.int .i64 o.aJ.cX.port,.bool o.aJ.o.aE,.string o.aJ.o.host,.int .i64 o.aJ.o.port,.string o.aJ.path,.string o.aJ.query,.string o.aJ.method,.slice a9 hs.length c9,.bool o.aJ.fN,.string o.aJ.body,.bool o.proxy,.string o.text,.string o.user,.string o.pass,.string o.bL,.int .i64 o.cert,.bool o.all,.int .i64 o.n]),(3,.int .i64 st)]=some (mV {fX with does:=1,op:=o.dR hs,mY:=st} ⟨{o with aJ:={o.aJ with ey:=.slice a9 hs.length c9}},hs,.pointer none⟩).toArray:=af
theorem xI{P:Program}{ops:Array Oper}{S:World->Prop}{o:Oper}{a:Act}(hg:o.guard=none)(t:TypeId)(parts:Array (Nat×Operand))(ho:o.op=.build t parts)(cells:bS)(vs:List (Nat×Value))
  (he:(parts.map fun(i,x)=>(i,a.eval x)).toList=vs)(hf:P.built t vs=some cells):YieldsIf P ops S o (.agg cells) a :=
 Or.inl ⟨by simp[Region.wanted,hg],fun w _=>by
  unfold execOp;simp only[ho,Sem.run_bind,run_build w t _ cells (by rw[he];exact hf),Result.andThen_ok];rfl⟩
theorem Br(h:cO xw a U T t)(n:Int)(o:jQ)(hs:List ig){k:Int}(hk:k<1000000)(pj:fY k t)(ho:gI U o hs)(hnh:hs≠ []->∀b,o.aJ.ey.ownBlock=some b->b≠T)(hl:hs.length<100000) :
  aB 20 #[.pointer (some ⟨T,0,none⟩),.int .i64 n,.agg o.cells.toArray] U fun e w'=>e=.returned (xi (wC t n (o.dR hs)).2)/\cO xw a w' T (wC t n (o.dR hs)).1/\gR U w':=by
 obtain⟨ah,ch,gH⟩:=ho.gZ;obtain⟨x1,mM⟩:∃x1,x1=U.alloc (.cells o.cells.toArray 41):=⟨_,rfl⟩;have dr:Fr aS U x1:=by rw[mM];exact(ae aS U).alloc _
 have k1:x1.heap[U.heap.size]?=some (.cells o.cells.toArray 41 (0,0)):=by rw[mM];exact aC _ _
 have hT:T<U.heap.size:=by
  obtain⟨B,g,sv,sb,h1,_⟩:=h.ex;exact h1.lt
 have h':=h.dm dr;have lC:=O dr;have ER:=ho.dm dr;unfold wC;cases hn:yy n
 ·as_aux_lemma =>
   have HC:=O (IU x1 T hn);have HH:=O h';rw[d_ gH]at mM ⊢;have HX:=O mM;clear hn h pj h' ho ER gH dr k1 mM hT;go_enter func20,ntmps20;go_wp2_with fail
   rw[<-HX.o];refine HC.o.mono ?_;rintro e u⟨rfl,rfl⟩;unfold xi;go_wp2;go_ret;exact⟨rfl,HH.o,eJ lC.o⟩
 ·obtain⟨i,rfl,hi⟩:=CN hn;obtain⟨B,g,sv,sb,h1,h2,h3,h4⟩:=h'.ex;have HC:=O (Ot x1 T hi);have c:x1.cell? ⟨T,17+i*45,none⟩=some (.int .i64 (t.tab i).does):=h1.tab i hi 0 _ rfl;have c2:=h1.steps;have fz:=h1.free 287;have e1:((i:Int)).toNat=i:=rfl;rw[az rfl,e1];by_cases hd:(t.tab i).does=0
  ·as_aux_lemma =>
    rw[az hd];rw[hd]at c;have s1:=pj.steps.1;have s2:=pj.steps.2;have q1:=h1.Eo (t.steps+1);have HTB:=O (show gR U (x1.setCell ⟨T,287,none⟩ (.int .i64 (t.steps+1)))from by
     obtain⟨d,hdd,_⟩:=h1.eL;exact(eJ dr).tabs hdd q1.2)
    have HI:=O (kF (t':={t with steps:=t.steps+1}) h1 h2 h3 h4 h'.low h'.fr q1 rfl (fun j p hp=>hp) (fun j hj=>⟨fun sM=>Or.inl ⟨rfl,rfl,rfl,sM⟩,(h4 j hj).2⟩));have HO:=O ER;have kN:=q1.2.keep k1 (fun e=>by have e':U.heap.size=T:=e;omega);have HK:=O kN;have y11:(x1.setCell ⟨T,287,none⟩ (.int .i64 (t.steps+1))).cell? ⟨U.heap.size,11,none⟩=some (.slice ah hs.length ch):=by
     simp only[World.cell?,kN,d_ gH];rfl
    have Ju:=O (show oL (x1.setCell ⟨T,287,none⟩ (.int .i64 (t.steps+1))) (.slice ah hs.length ch) hs from by
     have g1:=ER.ey;rw[gH]at g1;exact dY.fr1 g1 q1.2 (fun hne b hb=>hnh (fun e=>hne (by rw[e];rfl)) b (by rw[gH];exact hb)))
    have JF:=O (show([]:cZ).length+(hs.map ig.cells).length<1000000000 from bI);have HAN:=O (show a.heap.size<=U.heap.size from h.fr.size);have uO:=O (show a.heap.size<=(x1.setCell ⟨T,287,none⟩ (.int .i64 (t.steps+1))).heap.size by
     have u1:=h'.fr.size;have u2:=q1.2.size;omega)
    rw[d_ gH]at mM ⊢;have HX:=O mM;have lD:=O gH;clear hn h pj h1 h2 h3 h4 q1 h' ho ER dr k1 mM kN gH;go_enter func20,ntmps20;go_wp2_with fail
    rw[<-HX.o];refine HC.o.mono ?_;rintro e u⟨rfl,rfl⟩
    go_wp2_with (at_builtin
                 refine Ad rfl _ _ rfl a.heap.size _ [] rfl (dy _ _ _ _) _ (hs.map ig.cells) rfl Ju.o JF.o uO.o ?_
                 intro v9 w9 uX aaO
                 rw[List.nil_append]at uX
                 obtain⟨a9,c9,hv9⟩:=uX.form
                 rw[ai]at hv9
                 subst hv9
                 have TM:Fr aS _ w9:=fq (ae _ _) aaO (fun k hk=>by cases hk)
                 have k9:=TM.keep HK.o id
                 have z11:w9.cell? ⟨U.heap.size,11,none⟩=some (.slice ah hs.length ch):=by
                   simp only[World.cell?,k9,d_ lD.o]
                   rfl
                 have aqd:w9.frozen? ⟨U.heap.size,11,none⟩=false:=by simp[World.frozen?,k9])
    have HI9:=O (HI.o.dm TM);have hk9:(w9.setCell ⟨U.heap.size,11,none⟩ (.slice a9 hs.length c9)).heap[U.heap.size]?=some (.cells (jQ.cells {o with aJ:={o.aJ with ey:=.slice a9 hs.length c9}}).toArray 41 (0,0)):=by
     rw[cg k9,d_ lD.o];rfl
    have TN:Fr (one U.heap.size) w9 (w9.setCell ⟨U.heap.size,11,none⟩ (.slice a9 hs.length c9)):=(ae (one U.heap.size) _).setCell (p:=⟨U.heap.size,11,none⟩) (fun _=>rfl) _;have aaM:=O (HI9.o.aside HAN.o k9 ⟨jl,ag⟩ ag ag ag ag TN);have aaN:=O (uX.fr TN (fun g hg e=>uX.not k9 ag (by rw[hg];exact ar some e)));have HKW:=O ((HTB.o.trans (eJ TM)).new TN (ay _))
    clear TM k9 z11 aqd TN uX aaO y11 HTB HI9 HI Ju uO HK HX HC c c2 fz;generalize w9.setCell ⟨U.heap.size,11,none⟩ (.slice a9 hs.length c9)=W at *
    obtain⟨N,hN⟩:∃N,N=U.heap.size:=⟨_,rfl⟩;rw[<-hN]at hk9 ⊢;have fg:=aaL (t:=t) hi aaM.o HO.o (show N≠T from ab) hd hk9 aaN.o;clear hN hk9 aaM aaN;obtain⟨X,hX⟩:∃X,X=(mV {fX with does:=1,op:=o.dR hs,mY:=t.steps+1} ⟨{o with aJ:={o.aJ with ey:=.slice a9 hs.length c9}},hs,.pointer none⟩):=⟨_,rfl⟩;rw[<-hX]at fg;have GQ:X.toArray.all (·.oneCell')=true:=by rw[hX];exact Ac _ _ rfl rfl
    have UG:X.length=45:=by rw[hX];rfl
    obtain⟨f1,f2,f3,f4,f5⟩:=fg;have Ym:=O (HKW.o.trans f5);have HT:=O (show W.drew.there T (17+i*45) X.toArray.size by rw[aZ,UG];exact f2);have MU:=O GQ;have HXS:=O (show(prog.info? 72).map (·.size)=some X.toArray.size by rw[aZ,UG];kernel_rfl);have Fg:=O f3;have HR:=O f4;have HXV:=O hX;have F1:=O f1;unfold aft at f1;clear hX GQ UG f2 f3 f4 f5 HKW
    refine wp_region_held_drew (S:=(fun V=>V.rangeAt N 0 [.int .i64 o.what,.int .i64 o.aJ.part,.bool o.aJ.cX.aE,.string o.aJ.cX.host,.int .i64 o.aJ.cX.port,.bool o.aJ.o.aE,.string o.aJ.o.host,.int .i64 o.aJ.o.port,.string o.aJ.path,.string o.aJ.query,.string o.aJ.method,.slice a9 hs.length c9,.bool o.aJ.fN,.string o.aJ.body,.bool o.proxy,.string o.text,.string o.user,.string o.pass,.string o.bL,.int .i64 o.cert,.bool o.all,.int .i64 o.n]/\V.cell? ⟨T,287,none⟩=some (.int .i64 (t.steps+1)))) af (by exact f1) ?_
    intro Az;refine aW 0 37 rfl ?_;refine aW 2 39 rfl ?_;refine aW 3 40 rfl ?_;refine aW 4 41 rfl ?_
    refine wF 1 38 rfl (gW bC 41 (.tmp 5) rfl N 0 rfl ([.int .i64 o.what,.int .i64 o.aJ.part,.bool o.aJ.cX.aE,.string o.aJ.cX.host,.int .i64 o.aJ.cX.port,.bool o.aJ.o.aE,.string o.aJ.o.host,.int .i64 o.aJ.o.port,.string o.aJ.path,.string o.aJ.query,.string o.aJ.method,.slice a9 hs.length c9,.bool o.aJ.fN,.string o.aJ.body,.bool o.proxy,.string o.text,.string o.user,.string o.pass,.string o.bL,.int .i64 o.cert,.bool o.all,.int .i64 o.n]) _ (fun w hw=>hw.1) underlying41 rfl af) ?_
    try simp only[Act.put,sA,sB,sC]
    refine aW 5 42 rfl ?_
    have Yn:prog.built 72 [(0,.int .i64 1),(1,.agg #[.int .i64 o.what,.int .i64 o.aJ.part,.bool o.aJ.cX.aE,.string o.aJ.cX.host,.int .i64 o.aJ.cX.port,.bool o.aJ.o.aE,.string o.aJ.o.host,.int .i64 o.aJ.o.port,.string o.aJ.path,.string o.aJ.query,.string o.aJ.method,.slice a9 hs.length c9,.bool o.aJ.fN,.string o.aJ.body,.bool o.proxy,.string o.text,.string o.user,.string o.pass,.string o.bL,.int .i64 o.cert,.bool o.all,.int .i64 o.n]),(3,.int .i64 (t.steps+1))]=some X.toArray:=by rw[HXV.o];exact WV o hs a9 c9 (t.steps+1)
    refine wF 6 43 rfl (xI rfl 72 _ rfl X.toArray _ (by simp only[eF,cE,dt];rfl) Yn) ?_;clear Yn
    try simp only[Act.put,sA,sB,sC]
    refine aW 7 44 rfl ?_;refine eT 8 rfl fun K hK=>?_;refine rW rfl 72 (.tmp 44) (.tmp 43) rfl T (17+i*45) X.toArray rfl rfl HT.o HXS.o MU.o ?_;refine hK.out _ _ Fg.o ?_;intro yu;clear hK Az yu K;refine wpAnyH_done af ?_ _;go_wp2;go_ret;exact⟨rfl,HR.o,Ym.o⟩
  ·as_aux_lemma =>
    rw[aq hd];have hd0:¬((t.tab i).does:Int)=0:=ab;have HH:=O h';rw[d_ gH]at mM ⊢;have HX:=O mM;clear hn h pj h1 h2 h3 h4 h' ho ER gH dr k1 mM hT;go_enter func20,ntmps20;go_wp2_with fail
    rw[<-HX.o];refine HC.o.mono ?_;rintro e u⟨rfl,rfl⟩;go_wp2;go_ret;exact⟨rfl,HH.o,eJ lC.o⟩
end
theorem afv(U:World)(T o:Nat){v:Int}(hc:U.cell? ⟨T,o,none⟩=some (.int .i64 v))(hf:U.frozen? ⟨T,o,none⟩=false)(h0:0<=v)(h1:v<1000000) :
  aB 90 #[.pointer (some ⟨T,o,none⟩)] U fun e w'=>e=.returned (.tuple #[])/\w'=U.setCell ⟨T,o,none⟩ (.int .i64 (v+1)):=by
 go_enter func90,ntmps90;go_wp2;go_end0;exact⟨rfl,rfl⟩
def OK(e:TypeId):Prop:=(eZ e/\e≠86)/\e≠171/\e≠43/\e≠75/\e≠9
theorem aaP:OK 3:=by unfold OK eZ;decide
theorem WW:OK 162:=by unfold OK eZ;decide
theorem I2:OK 30:=by unfold OK eZ;decide
section
variable {xw : Option (Nat × dI)} {base : Nat} {a U U' : World} {T : Nat} {t : iy}
theorem xj.far{ws:Nat->Option (Nat×dI)}(h:xj base U ws)(hf:Fr S U U')(oB:∀n,S n->base<=n)(hk:∀n,S n->∃c e,U.heap[n]?=some (.cells c e (0,0))/\eZ e/\e≠86/\e≠9):xj base U' ws:=by
 obtain⟨pv,h1,h2⟩:=h;refine⟨pv,fun i B x hi=>(h1 i B x hi).fr hf ?_ (fun k Zr e=>?_),h2⟩
 ·intro k hs _;obtain⟨c',e',q1,q2⟩:=hk k hs;exact⟨oB k hs,fun c f e=>by rw[q1]at e;cases e;exact q2.2.2 rfl⟩
 ·obtain⟨c',e',q1,q2⟩:=hk k e;exact(h1 i B x hi).wA q1 q2.1 q2.2.1 Zr
theorem cO.far(h:cO xw a U T t)(hf:Fr S U U')(oB:∀n,S n->a.heap.size<=n)(hk:∀n,S n->∃c e,U.heap[n]?=some (.cells c e (0,0))/\OK e):cO xw a U' T t:=by
 obtain⟨B,g,sv,sb,g1,g2,g3,g4⟩:=h.ex;obtain⟨d,hd,_⟩:=g1.eL;have hT:¬S T:=fun e=>by
  obtain⟨c,e',h1,h2⟩:=hk T e;rw[hd]at h1;cases h1;exact h2.2.2.2.1 rfl
 have ho:∀ {v:jQ×List ig} {o:iY},kp a.heap.size U v o->kp a.heap.size U' v o:=fun q=>q.rows (q.own.fr hf fun b hb hs=>by
  obtain⟨c,e',h1,h2⟩:=hk b hs;exact q.own.not h1 h2.2.1 hb)
 refine⟨⟨B,g,sv,sb,g1.fr hf hT,g2.far hf oB (fun n hn=>?_),?_,fun m hm=>⟨fun hd=>ho ((g4 m hm).1 hd),(g4 m hm).2⟩⟩,h.low,h.fr.step hf fun k hk e=>?_⟩
 ·obtain⟨c,e,h1,h2⟩:=hk n hn;exact⟨c,e,h1,h2.1.1,h2.1.2,h2.2.2.2.2⟩
 ·obtain⟨es,e1,e2,e3⟩:=g3;exact⟨es,e1,e2.fr hf fun b hb hs=>by
   obtain⟨c,e',h1,h2⟩:=hk b hs;exact e2.not h1 h2.2.2.1 hb,fun x hx=>ho (e3 x hx)⟩
 ·have:=oB k e;omega
end
def vu(n:Int):aX:=[.int .i64 n]
theorem Mg:(prog.info? 3).map (fun i=>(i.zero,i.size,i.bytes))=some (some (.int .i64 0),1,8):=af
def I7(base:Nat)(U:World)(V:Nat)(v:Value)(l:List Int)(e:Ending)(w':World):Prop :=
 e=.returned (.tuple #[])/\∃v',w'.heap[V]?=some (.cells #[v'] 162 (0,0))/\OwnRows base 3 1 w' v' (l.map vu)/\Fr (fun k=>k=V\/own v k) U w'
theorem Qs{base:Nat}{W:World}{V cap:Nat}{l:List Int}{x:Int}(hg:W.ownsRow base 3 1 (.slice (some ⟨g,0,none⟩) (l.length+1) cap) (l.length+1) ((l.map vu).flatten++[.int .i64 x]))(hV:W.heap[V]?=some (.cells #[v] 162 (0,0)))(hF:Fr (own v) U W) :
  I7 base U V v (l++[x]) (.returned (.tuple #[])) (W.setCell ⟨V,0,none⟩ (.slice (some ⟨g,0,none⟩) (l.length+1) cap)):=by
 have ho:OwnRows base 3 1 W (.slice (some ⟨g,0,none⟩) (l.length+1) cap) ((l++[x]).map vu):=by
  refine⟨fun y hy=>?_,?_⟩
  ·obtain⟨n,_,rfl⟩:=b_.1 hy;exact⟨rfl,fun u hu=>by rcases df.1 hu with rfl;rfl⟩
  ·have e:((l++[x]).map vu).length=l.length+1:=aR;have e2:((l++[x]).map vu).flatten=(l.map vu).flatten++[.int .i64 x]:=by simp[vu]
   rw[e,e2];exact hg
 have hs:Fr (one V) W (W.setCell ⟨V,0,none⟩ (.slice (some ⟨g,0,none⟩) (l.length+1) cap)):=(ae (one V) W).setCell (p:=⟨V,0,none⟩) (fun _=>rfl) _;refine⟨rfl,_,cg hV 0 _,ho.fr hs fun b hb e=>?_,((hF.mono fun _ _ h=>Or.inr h).step hs fun k hk e=>Or.inl e)⟩;exact ho.not hV ag (by rw[hb];exact ar some e)
section
variable {base : Nat} {U : World} {T o V : Nat} {v : Value} {l : List Int} {x : Int}
theorem afx(hV:U.heap[V]?=some (.cells #[v] 162 (0,0)))(hx:U.cell? ⟨T,o,none⟩=some (.int .i64 x))(cR:OwnRows base 3 1 U v (l.map vu))(hb:base<=U.heap.size)(hl:l.length<1000) :
  aB 85 #[.pointer (some ⟨T,o,none⟩),.pointer (some ⟨V,0,none⟩)] U (I7 base U V v (l++[x])):=by
 obtain⟨i0,qA,po,k_,lp⟩:=info_parts Mg;obtain⟨av,cv,hv⟩:=cR.form;rw[ai]at hv;subst hv;have d1:U.cell? ⟨V,0,none⟩=some (.slice av l.length cv):=by simp[World.cell?,hV]
 have e1:U.frozen? ⟨V,0,none⟩=false:=by simp[World.frozen?,hV]
 have hVl:=bj hV;have hne:(Value.slice av l.length cv).ownBlock≠some V:=cR.not hV ag;have HV:=O hV;have HO:=O (show U.ownsRow base 3 1 (.slice av l.length cv) l.length (l.map vu).flatten by
  have h:=cR.2
  rwa [ai]at h)
 clear hV cR;go_enter func85,ntmps85
 go_region_law ((with_reducible refine mP ⟨some 8,_,_,_,_,_⟩ ?_)
                refine step_append_lies _ bC _ _ _ bC base 3 i0 _ 1 8 underlying162 qA po k_ lp rfl ab (.slice av l.length cv) l.length _ bC (by have JB:=HO.o;repeat(first|exact JB|apply World.ownsRow.alloc|apply World.ownsRow.drew)) ⟨U.heap.size,0,none⟩ 1 1 [.int .i64 x] bC bC (kR U [.int .i64 x] _) (by intro u hu;rcases df.1 hu with rfl;rfl) ab fx ab bI (U.heap.size+1) aR ?_
                intro gg cap w4 fa jC dT Lb
                have jZ:Fr (own (.slice av l.length cv)) U w4:=fq (by repeat(first|exact ae _ _|apply aA|apply bz)) jC (fun _ hk _=>hk)
                have b4:=jZ.keep HV.o (fun e=>hne e)
                have k4:w4.cell? ⟨V,0,none⟩=some (.slice av l.length cv):=by simp[World.cell?,b4]
                have e4:w4.frozen? ⟨V,0,none⟩=false:=by simp[World.frozen?,b4])
 all_goals
  go_end0;exact Qs fa b4 jZ
theorem afy(hV:U.heap[V]?=some (.cells #[v] 162 (0,0)))(hx:U.cell? ⟨T,o,none⟩=some (.int .i64 x))(cR:OwnRows base 3 1 U v (l.map vu))(hb:base<=U.heap.size)(hl:l.length<1000) :
  aB 86 #[.pointer (some ⟨T,o,none⟩),.pointer (some ⟨V,0,none⟩)] U (I7 base U V v (l++[x])):=by
 obtain⟨i0,qA,po,k_,lp⟩:=info_parts Mg;obtain⟨av,cv,hv⟩:=cR.form;rw[ai]at hv;subst hv;have d1:U.cell? ⟨V,0,none⟩=some (.slice av l.length cv):=by simp[World.cell?,hV]
 have e1:U.frozen? ⟨V,0,none⟩=false:=by simp[World.frozen?,hV]
 have hVl:=bj hV;have hne:(Value.slice av l.length cv).ownBlock≠some V:=cR.not hV ag;have HV:=O hV;have HO:=O (show U.ownsRow base 3 1 (.slice av l.length cv) l.length (l.map vu).flatten by
  have h:=cR.2
  rwa [ai]at h)
 clear hV cR;go_enter func86,ntmps86
 go_region_law ((with_reducible refine mP ⟨some 8,_,_,_,_,_⟩ ?_)
                refine step_append_lies _ bC _ _ _ bC base 3 i0 _ 1 8 underlying162 qA po k_ lp rfl ab (.slice av l.length cv) l.length _ bC (by have JB:=HO.o;repeat(first|exact JB|apply World.ownsRow.alloc|apply World.ownsRow.drew)) ⟨U.heap.size,0,none⟩ 1 1 [.int .i64 x] bC bC (kR U [.int .i64 x] _) (by intro u hu;rcases df.1 hu with rfl;rfl) ab fx ab bI (U.heap.size+1) aR ?_
                intro gg cap w4 fa jC dT Lb
                have jZ:Fr (own (.slice av l.length cv)) U w4:=fq (by repeat(first|exact ae _ _|apply aA|apply bz)) jC (fun _ hk _=>hk)
                have b4:=jZ.keep HV.o (fun e=>hne e)
                have k4:w4.cell? ⟨V,0,none⟩=some (.slice av l.length cv):=by simp[World.cell?,b4]
                have e4:w4.frozen? ⟨V,0,none⟩=false:=by simp[World.frozen?,b4])
 all_goals
  go_end0;exact Qs fa b4 jZ
end
def yB(o:iY)(k:Nat):List (Nat×Nat):=([0,1,2,3].take k).filterMap fun i=>if(dp o).1.testBit i then some (if i=3 then 0 else o.part.toNat,i)else none
theorem Ae(hk:k<4)(hb:(dp o).1.testBit k=false):yB o (k+1)=yB o k:=by
 rcases(show k=0\/k=1\/k=2\/k=3 from ab)with rfl|rfl|rfl|rfl<;>simp[yB,List.filterMap_cons,hb]
theorem Mh(hk:k<4)(hb:(dp o).1.testBit k=true):yB o (k+1)=yB o k++[(if k=3 then 0 else o.part.toNat,k)]:=by
 rcases(show k=0\/k=1\/k=2\/k=3 from ab)with rfl|rfl|rfl|rfl
 ·simp[yB,hb]
 ·have e:∀f:Nat->Option (Nat×Nat),([0,1]:List Nat).filterMap f=[0].filterMap f++[1].filterMap f:=fun f=>jf (l:=[0]) (l':=[1]);simp only[yB,List.take];rw[e];simp[hb]
 ·have e:∀f:Nat->Option (Nat×Nat),([0,1,2]:List Nat).filterMap f=[0,1].filterMap f++[2].filterMap f:=fun f=>jf (l:=[0,1]) (l':=[2]);simp only[yB,List.take];rw[e];simp[hb]
 ·have e:∀f:Nat->Option (Nat×Nat),([0,1,2,3]:List Nat).filterMap f=[0,1,2].filterMap f++[3].filterMap f:=fun f=>jf (l:=[0,1,2]) (l':=[3]);simp only[yB,List.take];rw[e];simp[hb]
theorem SC(o:iY)(k:Nat):∃r,mZ o=yB o k++r:=⟨([0,1,2,3].drop k).filterMap fun i=>if(dp o).1.testBit i then some (if i=3 then 0 else o.part.toNat,i)else none,by
 unfold yB mZ;rw[<-jf,fO]⟩
theorem WY(hk:k<4)(hb:(dp o).1.testBit k=true):∃r,mZ o=yB o k++(if k=3 then 0 else o.part.toNat,k) :: r:=by
 obtain⟨r,hr⟩:=SC o (k+1);exact⟨r,by rw[hr,Mh hk hb,cK,List.singleton_append]⟩
theorem OL(o:iY):(dp o).1=0\/(((dp o).1=1\/(dp o).1=4\/(dp o).1=7\/(dp o).1=8\/(dp o).1=10)/\o.right=true):=by
 cases hr:o.right
 ·exact Or.inl (by rw[Bn hr])
 ·unfold dp;rw[hr];simp only[ef]
  repeat' split
  all_goals simp
def WZ(R:List (Nat×Nat)->World->Prop)(o:iY)(bx:Nat)(X:bS)(i:Value)(wr:World):Prop :=
 ∃k:Nat,k<=4/\i=.int .i64 k/\R (yB o k) wr/\wr.heap[bx]?=some (.cells X 41 (0,0))
def uR(R:List (Nat×Nat)->World->Prop)(o:iY)(T g:Nat)(cap:bS):Prop :=
 ∀d c r,mZ o=d++c :: r->∀V:World,R d V->aB g (#[.pointer (some ⟨T,1+c.1*4+c.2,none⟩)]++cap) V fun e w'=>e=.returned (.tuple #[])/\R (d++[c]) w'/\∀(n:Nat) (k:bS),V.heap[n]?=some (.cells k 41 (0,0))->w'.heap[n]?=some (.cells k 41 (0,0))
theorem W7{R:List (Nat×Nat)->World->Prop}{cap:bS}{bx:Nat}{X:bS}(ir:uR R o T g cap)(hk:k<4)(hb:(dp o).1.testBit k=true){p:Nat}(hp:(if k=3 then 0 else o.part.toNat)=p)(hR:R (yB o k) V)(qk:V.heap[bx]?=some (.cells X 41 (0,0))) :
  aB g (#[.pointer (some ⟨T,1+p*4+k,none⟩)]++cap) V fun e w'=>e=.returned (.tuple #[])/\R (yB o (k+1)) w'/\w'.heap[bx]?=some (.cells X 41 (0,0)):=by
 obtain⟨r,hr⟩:=WY hk hb;rw[hp]at hr;refine(ir _ _ _ hr V hR).mono ?_;rintro e w'⟨h1,h2,h3⟩;rw[Mh hk hb,hp];exact⟨h1,h2,h3 _ _ qk⟩
theorem SD(U:World)(T:Nat)(o:jQ)(hs:List ig)(g:Nat)(cap:bS)(_eg:∀args w,(callFunc g args).run prog w=.ok (.enter g args) w)(R:List (Nat×Nat)->World->Prop)(h0:R [] U)(cL:∀d V V',R d V->Fr aS V V'->R d V')(ir:uR R (o.dR hs) T g cap)(ho:gI U o hs)(hc:(dp (o.dR hs)).1=0) :
  aB 84 #[.pointer (some ⟨T,0,none⟩),.agg o.cells.toArray,.func (.func g) #[] cap] U fun e w'=>e=.returned (.tuple #[])/\R (mZ (o.dR hs)) w':=by
 obtain⟨ah,ch,gH⟩:=ho.gZ;obtain⟨x1,mM⟩:∃x1,x1=U.alloc (.cells o.cells.toArray 41):=⟨_,rfl⟩;have dr:Fr aS U x1:=by rw[mM];exact(ae aS U).alloc _
 have HK:=O (show x1.heap[U.heap.size]?=some (.cells o.cells.toArray 41 (0,0))by rw[mM];exact aC _ _);have HC:=O (Bt x1 o hs (ho.dm dr));have HR1:=O (cL _ _ _ h0 dr);have mj:=O ir;have tA:=O cL;rw[hc]at HC;have xg:=O hc;rw[d_ gH]at mM HK HC ⊢;have HX:=O mM;have lD:=O gH;clear gH dr mM ir cL h0 ho hc;go_enter func84,ntmps84
 have vt:=O (aC U (.cells #[.int .i64 o.what,.int .i64 o.aJ.part,.bool o.aJ.cX.aE,.string o.aJ.cX.host,.int .i64 o.aJ.cX.port,.bool o.aJ.o.aE,.string o.aJ.o.host,.int .i64 o.aJ.o.port,.string o.aJ.path,.string o.aJ.query,.string o.aJ.method,.slice ah hs.length ch,.bool o.aJ.fN,.string o.aJ.body,.bool o.proxy,.string o.text,.string o.user,.string o.pass,.string o.bL,.int .i64 o.cert,.bool o.all,.int .i64 o.n] 41))
 go_wp2_with (first|((with_reducible refine di 11 ?_);refine aH rfl 41 (.tmp 4) rfl U.heap.size rfl _ #[.int .i64 o.what,.int .i64 o.aJ.part,.bool o.aJ.cX.aE,.string o.aJ.cX.host,.int .i64 o.aJ.cX.port,.bool o.aJ.o.aE,.string o.aJ.o.host,.int .i64 o.aJ.o.port,.string o.aJ.path,.string o.aJ.query,.string o.aJ.method,.slice ah hs.length ch,.bool o.aJ.fN,.string o.aJ.body,.bool o.proxy,.string o.text,.string o.user,.string o.pass,.string o.bL,.int .i64 o.cert,.bool o.all,.int .i64 o.n] (0,0) _ vt.o underlying41 rfl af ?_)|fail)
 rw[<-HX.o];refine HC.o.mono ?_;rintro e u⟨rfl,hu⟩;have Nd:=O (tA.o _ _ _ HR1.o hu);have qO:=O (hu.keep HK.o id);clear hu HR1 HK HC HX vt;generalize U.heap.size=bx at *
 go_wp2
 go_loopw[15] (WZ R (o.dR hs) bx #[.int .i64 o.what,.int .i64 o.aJ.part,.bool o.aJ.cX.aE,.string o.aJ.cX.host,.int .i64 o.aJ.cX.port,.bool o.aJ.o.aE,.string o.aJ.o.host,.int .i64 o.aJ.o.port,.string o.aJ.path,.string o.aJ.query,.string o.aJ.method,.slice ah hs.length ch,.bool o.aJ.fN,.string o.aJ.body,.bool o.proxy,.string o.text,.string o.user,.string o.pass,.string o.bL,.int .i64 o.cert,.bool o.all,.int .i64 o.n]) (fun i _=>4-(intOf i).toNat)
 case atStart=>exact⟨0,aQ _,rfl,Nd.o,qO.o⟩
 case round =>
  obtain⟨k,hk,rfl,hR,qk⟩:=hrel;clear Nd qO;have HR:=O hR;have HB:=O qk;clear hR qk;rcases(show k=0\/k=1\/k=2\/k=3\/k=4 from ab)with rfl|rfl|rfl|rfl|rfl
  ·have HN:=O (Ae (o:=o.dR hs) (k:=0) ag (by rw[xg.o];decide));go_wp2;go_roundw
   case rel=>exact⟨1,ab,bg,by rw[HN.o];exact HR.o,HB.o⟩
   case measure=>simp[intOf]
  ·have HN:=O (Ae (o:=o.dR hs) (k:=1) ag (by rw[xg.o];decide));go_wp2;go_roundw
   case rel=>exact⟨2,ab,bg,by rw[HN.o];exact HR.o,HB.o⟩
   case measure=>simp[intOf]
  ·have HN:=O (Ae (o:=o.dR hs) (k:=2) ag (by rw[xg.o];decide));go_wp2;go_roundw
   case rel=>exact⟨3,ab,bg,by rw[HN.o];exact HR.o,HB.o⟩
   case measure=>simp[intOf]
  ·have HN:=O (Ae (o:=o.dR hs) (k:=3) ag (by rw[xg.o];decide));go_wp2;go_roundw
   case rel=>exact⟨4,ab,bg,by rw[HN.o];exact HR.o,HB.o⟩
   case measure=>simp[intOf]
  ·go_wp2;go_end0;exact⟨rfl,HR.o⟩
theorem OM(U:World)(T:Nat)(o:jQ)(hs:List ig)(g:Nat)(cap:bS)(eg:∀args w,(callFunc g args).run prog w=.ok (.enter g args) w)(R:List (Nat×Nat)->World->Prop)(h0:R [] U)(cL:∀d V V',R d V->Fr aS V V'->R d V')(ir:uR R (o.dR hs) T g cap)(ho:gI U o hs)(hc:(dp (o.dR hs)).1=1\/(dp (o.dR hs)).1=4\/(dp (o.dR hs)).1=7\/(dp (o.dR hs)).1=8\/(dp (o.dR hs)).1=10)(hr:(o.dR hs).right=true) :
  aB 84 #[.pointer (some ⟨T,0,none⟩),.agg o.cells.toArray,.func (.func g) #[] cap] U fun e w'=>e=.returned (.tuple #[])/\R (mZ (o.dR hs)) w':=by
 rcases hc with hc|hc|hc|hc|hc
 all_goals
  obtain⟨ah,ch,gH⟩:=ho.gZ;obtain⟨x1,mM⟩:∃x1,x1=U.alloc (.cells o.cells.toArray 41):=⟨_,rfl⟩;have dr:Fr aS U x1:=by rw[mM];exact(ae aS U).alloc _
  have HK:=O (show x1.heap[U.heap.size]?=some (.cells o.cells.toArray 41 (0,0))by rw[mM];exact aC _ _);have HC:=O (Bt x1 o hs (ho.dm dr));have HR1:=O (cL _ _ _ h0 dr);have mj:=O ir;have tA:=O cL;rw[hc]at HC;have xg:=O hc;obtain⟨p0,p4⟩:=jT hr;obtain⟨p,hp⟩:∃p:Nat,o.aJ.part=(p:Int):=⟨o.aJ.part.toNat,by have:(o.dR hs).part=o.aJ.part:=rfl;omega⟩;have hp4:p<4:=by have:(o.dR hs).part=o.aJ.part:=rfl;omega
  have HP:=O hp;have HPT:=O (show(o.dR hs).part.toNat=p by have:(o.dR hs).part=o.aJ.part:=rfl;omega);have q1:(p:Int)<4:=ab;have q2:(0:Int)<=(p:Int):=ab;have q3:¬(p:Int)<0:=ab;have q4:¬(4:Int)<=(p:Int):=ab;rw[d_ gH]at mM HK HC ⊢;have HX:=O mM;have lD:=O gH;clear gH dr mM ir cL h0 ho hc hr p0 p4 hp;go_enter func84,ntmps84
  have vt:=O (aC U (.cells #[.int .i64 o.what,.int .i64 o.aJ.part,.bool o.aJ.cX.aE,.string o.aJ.cX.host,.int .i64 o.aJ.cX.port,.bool o.aJ.o.aE,.string o.aJ.o.host,.int .i64 o.aJ.o.port,.string o.aJ.path,.string o.aJ.query,.string o.aJ.method,.slice ah hs.length ch,.bool o.aJ.fN,.string o.aJ.body,.bool o.proxy,.string o.text,.string o.user,.string o.pass,.string o.bL,.int .i64 o.cert,.bool o.all,.int .i64 o.n] 41))
  go_wp2_with (first|((with_reducible refine di 11 ?_);refine aH rfl 41 (.tmp 4) rfl U.heap.size rfl _ #[.int .i64 o.what,.int .i64 o.aJ.part,.bool o.aJ.cX.aE,.string o.aJ.cX.host,.int .i64 o.aJ.cX.port,.bool o.aJ.o.aE,.string o.aJ.o.host,.int .i64 o.aJ.o.port,.string o.aJ.path,.string o.aJ.query,.string o.aJ.method,.slice ah hs.length ch,.bool o.aJ.fN,.string o.aJ.body,.bool o.proxy,.string o.text,.string o.user,.string o.pass,.string o.bL,.int .i64 o.cert,.bool o.all,.int .i64 o.n] (0,0) _ vt.o underlying41 rfl af ?_)|fail)
  rw[<-HX.o];refine HC.o.mono ?_;rintro e u⟨rfl,hu⟩;have Nd:=O (tA.o _ _ _ HR1.o hu);have qO:=O (hu.keep HK.o id);clear hu HR1 HK HC HX vt;generalize U.heap.size=bx at *
  go_wp2
  go_loopw[15] (WZ R (o.dR hs) bx #[.int .i64 o.what,.int .i64 o.aJ.part,.bool o.aJ.cX.aE,.string o.aJ.cX.host,.int .i64 o.aJ.cX.port,.bool o.aJ.o.aE,.string o.aJ.o.host,.int .i64 o.aJ.o.port,.string o.aJ.path,.string o.aJ.query,.string o.aJ.method,.slice ah hs.length ch,.bool o.aJ.fN,.string o.aJ.body,.bool o.proxy,.string o.text,.string o.user,.string o.pass,.string o.bL,.int .i64 o.cert,.bool o.all,.int .i64 o.n]) (fun i _=>4-(intOf i).toNat)
  case atStart=>exact⟨0,aQ _,rfl,Nd.o,qO.o⟩
  case round =>
   obtain⟨k,hk,rfl,hR,qk⟩:=hrel;clear Nd qO;have HR:=O hR;have HB:=O qk;clear hR qk;have c1:wr.cell? ⟨bx,1,none⟩=some (.int .i64 p):=by simp[World.cell?,HB.o,HP.o]
   by_cases Kv:k<4
   ·cases hb:(dp (o.dR hs)).1.testBit k
    ·have HN:=O (Ae Kv hb);rw[xg.o]at hb;rcases(show k=0\/k=1\/k=2\/k=3 from ab)with rfl|rfl|rfl|rfl
     all_goals first
      |exact absurd hb ag
      |(clear hb
        go_wp2
        go_roundw
        case rel=>first|exact⟨1,ab,bg,by rw[HN.o];exact HR.o,HB.o⟩|exact⟨2,ab,bg,by rw[HN.o];exact HR.o,HB.o⟩|exact⟨3,ab,bg,by rw[HN.o];exact HR.o,HB.o⟩|exact⟨4,ab,bg,by rw[HN.o];exact HR.o,HB.o⟩
        case measure=>simp[intOf])
    ·have hq:∃q:Nat,q=(if k=3 then 0 else(o.dR hs).part.toNat):=⟨_,rfl⟩;obtain⟨q,hq⟩:=hq;have akv:=O (W7 (p:=q) mj.o Kv hb hq.symm HR.o HB.o);rw[HPT.o]at hq;rw[xg.o]at hb;rcases(show k=0\/k=1\/k=2\/k=3 from ab)with rfl|rfl|rfl|rfl
     all_goals first
      |exact absurd hb ag
      |(clear hb HR HB
        first|rw[aq ag]at hq|rw[az rfl]at hq
        subst hq
        go_wp2_with fail
        refine akv.o.mono ?_
        rintro e w1⟨rfl,g1,g2⟩
        go_wp2
        go_roundw
        case rel=>first|exact⟨1,ab,bg,g1,g2⟩|exact⟨2,ab,bg,g1,g2⟩|exact⟨3,ab,bg,g1,g2⟩|exact⟨4,ab,bg,g1,g2⟩
        case measure=>simp[intOf])
   ·obtain rfl:k=4:=ab;go_wp2;go_end0;exact⟨rfl,HR.o⟩
theorem wG(U:World)(T:Nat)(o:jQ)(hs:List ig)(g:Nat)(cap:bS)(eg:∀args w,(callFunc g args).run prog w=.ok (.enter g args) w)(R:List (Nat×Nat)->World->Prop)(h0:R [] U)(cL:∀d V V',R d V->Fr aS V V'->R d V')(ir:uR R (o.dR hs) T g cap)(ho:gI U o hs) :
  aB 84 #[.pointer (some ⟨T,0,none⟩),.agg o.cells.toArray,.func (.func g) #[] cap] U fun e w'=>e=.returned (.tuple #[])/\R (mZ (o.dR hs)) w':=by
 rcases OL (o.dR hs)with hc|⟨hc|hc|hc|hc|hc,hr⟩
 ·exact SD U T o hs g cap eg R h0 cL ir ho hc
 all_goals exact OM U T o hs g cap eg R h0 cL ir ho (by simp[hc]) hr
theorem jv{P:Program}{fn:Func}{p u v:Tmp}{ty:TypeId}(h:fn.results= #[.cell p ty,.tmp u,.tmp v])(tmps:bS)(w:World)(g:Nat)(t:TypeId)(cs:bS)(fr:Nat×Nat)(d:TypeDesc)
  (hp:tmps.getD p undef=.pointer (some ⟨g,0,none⟩))(hg:w.heap[g]?=some (.cells cs t fr))
  (hu:P.underlying ty=some d)(hd:(match d with| .struct _| .array _ _=>true|_=>false)=true)(hi:(P.info? ty).map (·.size)=some cs.size) :
  (results fn tmps).run P w=.ok (.tuple #[.agg cs,tmps.getD u undef,tmps.getD v undef]) w:=by
 have hp':tmps[p]?.getD undef=.pointer (some ⟨g,0,none⟩):=by simpa using hp
 simp[results,h,hp',asAddr,run_loadVar_row w g t ty cs fr d hg hu hd hi,Result.andThen]
def TP(n:Nat)(o:jQ)(ah:eV)(nh ch:Nat)(r:kI)(mY fin:Int):aX:=[.int .i64 n,.int .i64 o.what,.int .i64 o.aJ.part,.bool o.aJ.cX.aE,.string o.aJ.cX.host,.int .i64 o.aJ.cX.port,.bool o.aJ.o.aE,.string o.aJ.o.host,.int .i64 o.aJ.o.port,.string o.aJ.path,.string o.aJ.query,.string o.aJ.method,.slice ah nh ch,.bool o.aJ.fN,.string o.aJ.body,.bool o.proxy,.string o.text,.string o.user,.string o.pass,.string o.bL,.int .i64 o.cert,.bool o.all,.int .i64 o.n,.int .i64 r.what,.string r.head,.int .i64 r.cert,.int .i64 mY,.int .i64 fin]
theorem I8{n:Nat}{o:jQ}{hs:List ig}(h:o.aJ.ey=.slice ah hs.length ch)(op:iY)(r:kI)(mY fin:Int):LR (⟨n,op,r,mY,fin⟩,(o,hs))=TP n o ah hs.length ch r mY fin:=by
 unfold LR jQ.cells gu.cells;rw[h];rfl
theorem W_{o:jQ}{nh:Nat}(h:o.aJ.ey=.slice ah nh ch):o.cells=[.int .i64 o.what,.int .i64 o.aJ.part,.bool o.aJ.cX.aE,.string o.aJ.cX.host,.int .i64 o.aJ.cX.port,.bool o.aJ.o.aE,.string o.aJ.o.host,.int .i64 o.aJ.o.port,.string o.aJ.path,.string o.aJ.query,.string o.aJ.method,.slice ah nh ch,.bool o.aJ.fN,.string o.aJ.body,.bool o.proxy,.string o.text,.string o.user,.string o.pass,.string o.bL,.int .i64 o.cert,.bool o.all,.int .i64 o.n]:=by
 unfold jQ.cells gu.cells;rw[h];rfl
theorem I9(n:Nat)(o:jQ)(ah:eV)(nh ch:Nat)(r:kI)(mY fin:Int):∀u∈TP n o ah nh ch r mY fin,u.oneCell'=true:=by
 intro u hu;unfold TP at hu;simp only[bB,cz,dX]at hu;rcases hu with rfl|rfl|rfl|rfl|rfl|rfl|rfl|rfl|rfl|rfl|rfl|rfl|rfl|rfl|rfl|rfl|rfl|rfl|rfl|rfl|rfl|rfl|rfl|rfl|rfl|rfl|rfl|rfl<;>rfl
theorem aaQ(n:Nat)(o:jQ)(ah:eV)(nh ch:Nat)(r:kI)(mY fin:Int):prog.built 43 [(0,.int .i64 n),(1,.agg #[.int .i64 o.what,.int .i64 o.aJ.part,.bool o.aJ.cX.aE,.string o.aJ.cX.host,.int .i64 o.aJ.cX.port,.bool o.aJ.o.aE,.string o.aJ.o.host,.int .i64 o.aJ.o.port,.string o.aJ.path,.string o.aJ.query,.string o.aJ.method,.slice ah nh ch,.bool o.aJ.fN,.string o.aJ.body,.bool o.proxy,.string o.text,.string o.user,.string o.pass,.string o.bL,.int .i64 o.cert,.bool o.all,.int .i64 o.n]),(2,.agg #[.int .i64 r.what,.string r.head,.int .i64 r.cert]),(3,.int .i64 mY),(4,.int .i64 fin)]=some (TP n o ah nh ch r mY fin).toArray:=af
def Ew:bS:= #[.int .i64 0,.int .i64 0,.int .i64 0,.bool false,.string ⟨#[]⟩,.int .i64 0,.bool false,.string ⟨#[]⟩,.int .i64 0,.string ⟨#[]⟩,.string ⟨#[]⟩,.string ⟨#[]⟩,.slice none 0 0,.bool false,.string ⟨#[]⟩,.bool false,.string ⟨#[]⟩,.string ⟨#[]⟩,.string ⟨#[]⟩,.string ⟨#[]⟩,.int .i64 0,.bool false,.int .i64 0,.int .i64 0,.string ⟨#[]⟩,.int .i64 0,.int .i64 0,.int .i64 0]
theorem I_:(prog.info? 43).map (fun i=>(i.zero,i.size,i.bytes))=some (some (.agg Ew),28,328):=af
theorem OO(n:Nat)(o:jQ)(ah:eV)(nh ch:Nat)(r:kI)(mY fin:Int):Instr.fill (fun i=>some (i*28,28)) ((Array.range (1*28)).map ((Value.agg Ew).cells[· %(Value.agg Ew).cells.size]!)) [(0,.agg (TP n o ah nh ch r mY fin).toArray)]=some (TP n o ah nh ch r mY fin).toArray:=af
theorem uZ{P:Program}{ops:Array Oper}{o:Oper}{a:Act}{w:World}{K:Act->World->Prop}{Q:Exit->Act->World->Prop}{E:Prop}(yN:o.guard=none)(t e:TypeId)(len:Nat)(parts:Array (Nat×Operand))(ho:o.op=.buildSlice t len parts)
  (cells:bS)(ie:TypeInfo)(z:Value)(vs:List (Nat×Value))(he:(parts.map fun(i,x)=>(i,a.eval x)).toList=vs)
  (hu:P.underlying t=some (.slice e))(hie:P.info? e=some ie)(hz:ie.zero=some z)(Hs:¬len*ie.size>2^24)(p_:¬len*ie.size=0)
  (hf:Instr.fill (fun i=>some (i*ie.size,ie.size)) ((Array.range (len*ie.size)).map (z.cells[· %z.cells.size]!)) vs=some cells)
  (h:K (a.put o.dst (.slice (some ⟨w.heap.size,0,none⟩) len len)) (w.alloc (.cells cells e))):if Region.wanted o (yielded ops a.tmps)=true then Oper.wp P o a w K Q else E:=by
 have hw:Region.wanted o (yielded ops a.tmps)=true:=by simp[Region.wanted,yN]
 rw[az hw];exact wp_buildSlice t e len parts ho cells ie z hu hie hz Hs p_ (by rw[he];exact hf) h
theorem kS{b o:Nat}{p q r:aX}(h:U.rangeAt b o (p++(q++r))):U.rangeAt b (o+p.length) q:=fun j v hj=>by
 have hl:=(List.getElem?_eq_some_iff.1 hj).1;have:=h (p.length+j) v (by rw[List.getElem?_append_right ab,show p.length+j-p.length=j from ab,List.getElem?_append_left hl];exact hj)
 rwa [<-Nat.add_assoc]at this
theorem yC{o:Nat}(h:U.rangeAt T o cs)(hk:o+cs.length<=k):(U.setCell ⟨T,k,none⟩ v).rangeAt T o cs:=bZ h T k [v] (Or.inr (Or.inl hk))
section
variable {xw : Option (Nat × dI)} {a U U' : World} {T : Nat} {t : iy}
def aaR(o:jQ)(ah:eV)(nh ch:Nat)(r:kI)(mY steps:Int)(i T R:Nat)(V:World):Prop:=V.rangeAt T (17+i*45+1) [.int .i64 o.what,.int .i64 o.aJ.part,.bool o.aJ.cX.aE,.string o.aJ.cX.host,.int .i64 o.aJ.cX.port,.bool o.aJ.o.aE,.string o.aJ.o.host,.int .i64 o.aJ.o.port,.string o.aJ.path,.string o.aJ.query,.string o.aJ.method,.slice ah nh ch,.bool o.aJ.fN,.string o.aJ.body,.bool o.proxy,.string o.text,.string o.user,.string o.pass,.string o.bL,.int .i64 o.cert,.bool o.all,.int .i64 o.n]/\V.rangeAt R 0 [.int .i64 r.what,.string r.head,.int .i64 r.cert]/\V.cell? ⟨T,17+i*45+24,none⟩=some (.int .i64 mY)/\V.cell? ⟨T,287,none⟩=some (.int .i64 steps)
theorem gj.aaR{B:Nat}{g:Nat->qI}{sv:Value}(h:gj U T B g sv t){i:Nat}(hi:i<6){ah:eV}{nh ch R:Nat}{r:kI}(hh:(g i).o.aJ.ey=.slice ah nh ch)(hR:U.heap[R]?=some (.cells (qp r).toArray 30 (0,0))) :
  aaR (g i).o ah nh ch r (t.tab i).mY t.steps i T R U:=by
 refine⟨?_,Cb (cs:=qp r) hR,h.tab i hi 24 _ rfl,h.steps⟩;have:=kS (p:=[.int .i64 (t.tab i).does]) (q:=(g i).o.cells) (h.tab i hi);rw[W_ hh]at this;exact this
theorem gj.more{B:Nat}{g:Nat->qI}{sv v':Value}{sb:Nat->Nat}{es:List (WB×(jQ×List ig))}(h1:gj U T B g sv t)(h2:xj a.heap.size U (oA xw B sb t))(QH:es.map (·.1)=t.gz)(mq:OwnRows a.heap.size 43 28 U sv (es.map LR))(Cq:∀x∈es,kp a.heap.size U x.2 x.1.op)
  (h4:∀n,n<6->((t.tab n).does≠0->kp a.heap.size U ((g n).o,(g n).hs) (t.tab n).op)/\((t.tab n).does=2\/(t.tab n).does=3->(g n).sp=.pointer (some ⟨sb n,0,none⟩)))(lo:a.heap.size<=T)(cL:Fr aS a U)
  {i:Nat}(hi:i<6)(hd:(t.tab i).does≠0)(r:kI)(hF:Fr (own sv) U U')(cR:OwnRows a.heap.size 43 28 U' v' (es.map LR++[LR (⟨i,(t.tab i).op,r,(t.tab i).mY,t.steps⟩,((g i).o,(g i).hs))])) :
  gj U' T B g sv t/\cO xw a ((U'.setCell ⟨T,288,none⟩ v').setCells T (17+i*45) (mV fX zeroV)) T (lW t i r)/\(U'.setCell ⟨T,288,none⟩ v').there T (17+i*45) 45/\Fr (one T) U' ((U'.setCell ⟨T,288,none⟩ v').setCells T (17+i*45) (mV fX zeroV))/\gR U ((U'.setCell ⟨T,288,none⟩ v').setCells T (17+i*45) (mV fX zeroV)):=by
 obtain⟨d,hbd,_⟩:=h1.eL;have hk:∀n,own sv n->∃c,U.heap[n]?=some (.cells c 43 (0,0)):=fun n hn=>mq.BM hn;have hT:¬own sv T:=fun e=>by
  obtain⟨c,hc⟩:=hk T e;rw[hbd]at hc;cases hc
 have b1:=h1.fr hF hT;have b2:=h2.far hF (fun n hn=>mq.block n hn) (fun n hn=>by
  obtain⟨c,hc⟩:=hk n hn;exact⟨c,_,hc,uQ.1,uQ.2,ag⟩)
 have ho:∀ {v:jQ×List ig} {o:iY},kp a.heap.size U v o->kp a.heap.size U' v o:=fun q=>q.rows (q.own.fr hF fun b hb hs=>by
  obtain⟨c,hc⟩:=hk b hs;exact q.own.not hc ag hb)
 have b3:qQ a.heap.size U' v' (t.gz++[⟨i,(t.tab i).op,r,(t.tab i).mY,t.steps⟩]):=by
  refine⟨es++[(⟨i,(t.tab i).op,r,(t.tab i).mY,t.steps⟩,((g i).o,(g i).hs))],by rw[bG,QH];rfl,by rw[bG];exact cR,fun x hx=>?_⟩;rcases bR.1 hx with hx|hx
  ·exact ho (Cq x hx)
  ·rcases df.1 hx with rfl
   exact ho ((h4 i hi).1 hd)
 have q1:=b1.WD v' (t.gz++[⟨i,(t.tab i).op,r,(t.tab i).mY,t.steps⟩]);have q2:=q1.1.Oq hi fX zeroV;have hkt:gR U ((U'.setCell ⟨T,288,none⟩ v').setCells T (17+i*45) (mV fX zeroV)):=by
  obtain⟨d',sM,_⟩:=b1.eL;refine((lA U).step hF fun n c e _ hn he q=>?_).tabs sM (q1.2.trans q2.2);obtain⟨c',X_⟩:=hk n q;rw[X_]at hn;cases hn;exact he.2.1 rfl
 refine⟨b1,?_,q1.1.there ab,q1.2.trans q2.2,hkt⟩;have aqg:Fr aS a U':=cL.step hF fun k hk e=>by have:=mq.block k e;omega
 obtain⟨c',X_,_⟩:=b1.eL;obtain⟨c2,sr,_⟩:=q1.1.eL;have b2':=(b2.one lo X_ rz.1 rz.2 ag q1.2);have b3':=(b3.one X_ ag ag q1.2)
 exact kF (t:={t with gz:=t.gz++[⟨i,(t.tab i).op,r,(t.tab i).mY,t.steps⟩]}) (t':=lW t i r) q1.1 b2' b3' (fun n hn=>⟨fun sM=>(ho ((h4 n hn).1 sM)).one X_ ag q1.2,(h4 n hn).2⟩) lo (aqg.step q1.2 fun k hk e=>by have e':k=T:=e;omega) q2 rfl (Ov (t:={t with gz:=t.gz++[⟨i,(t.tab i).op,r,(t.tab i).mY,t.steps⟩]}) (t':=lW t i r) rfl i (fun n hn=>aq hn) (by simp[lW,fX]) (by simp[lW,fX])) (fun j hj=>by
   by_cases ei:j=i
   ·subst ei;simp[lW,fX]
   ·simp only[lW,aq ei];exact⟨fun sM=>Or.inl ⟨trivial,trivial,trivial,sM⟩,(h4 j hj).2⟩)
theorem Ex(h:cO xw a U T t){i:Nat}(hi:i<6)(r:kI)(hd:(t.tab i).does≠0)(hl:t.gz.length<1000000) :
  aB 88 #[.pointer (some ⟨T,0,none⟩),.int .i64 i,.pointer (some ⟨T,17+i*45,none⟩),.agg #[.int .i64 r.what,.string r.head,.int .i64 r.cert]] U fun e w'=>e=.returned (.tuple #[.agg #[.int .i64 r.what,.string r.head,.int .i64 r.cert],.bool true,.nilIface])/\cO xw a w' T (lW t i r)/\gR U w':=by
 obtain⟨x2,PI⟩:∃x2,x2=(U.alloc (.cells #[.int .i64 r.what,.string r.head,.int .i64 r.cert] 30)).alloc (.cells #[.int .i64 0,.string ⟨#[]⟩,.int .i64 0] 30):=⟨_,rfl⟩;have dB:Fr aS U x2:=by rw[PI];exact((ae aS U).alloc _).alloc _
 have k7:x2.heap[U.heap.size]?=some (.cells #[.int .i64 r.what,.string r.head,.int .i64 r.cert] 30 (0,0)):=by rw[PI];exact((ae aS _).alloc _).keep (aC _ _) id
 have k8:x2.heap[U.heap.size+1]?=some (.cells #[.int .i64 0,.string ⟨#[]⟩,.int .i64 0] 30 (0,0)):=by
  rw[PI];have:=aC (U.alloc (.cells #[.int .i64 r.what,.string r.head,.int .i64 r.cert] 30)) (.cells #[.int .i64 0,.string ⟨#[]⟩,.int .i64 0] 30);simpa using this
 have hU2:x2.heap.size=U.heap.size+2:=by rw[PI];simp
 have f_:=O (dB.drew);obtain⟨R,hR⟩:∃R,R=U.heap.size:=⟨_,rfl⟩;have hxd:x2.drew.heap.size=R+2:=hU2.trans (by rw[hR]);have h':=h.dm (dB.drew);have k7':x2.drew.heap[R]?=some (.cells #[.int .i64 r.what,.string r.head,.int .i64 r.cert] 30 (0,0)):=by rw[hR];exact k7
 have k8':x2.drew.heap[R+1]?=some (.cells #[.int .i64 0,.string ⟨#[]⟩,.int .i64 0] 30 (0,0)):=by rw[hR];exact k8
 obtain⟨B,g,sv,sb,h1,h2,⟨es,QH,mq,Cq⟩,h4⟩:=h'.ex;have hTl:T<R:=by
  obtain⟨_,_,_,_,q1,_⟩:=h.ex;have:=q1.lt;omega
 have Qh:=(h4 i hi).1 hd;obtain⟨ah,ch,hh⟩:=Qh.own.form;rw[ai]at hh;have F1:=h1.aaR hi hh k7';have acG:=O (fun U' v' r hF cR=>gj.more (U':=U') (v':=v') h1 h2 QH mq Cq h4 h'.low h'.fr hi hd r hF cR);have aqi:es.length<1000000:=by rw[<-ai (f:=(·.1)),QH];exact hl
 have iE:a.heap.size<=R:=by have:=h.fr.size;omega
 obtain⟨x,hX⟩:∃x,x=TP i (g i).o ah (g i).hs.length ch r (t.tab i).mY t.steps:=⟨_,rfl⟩;have HEV:=O (I8 (n:=i) hh (t.tab i).op r (t.tab i).mY t.steps);have MU:=O (show∀u∈x,u.oneCell'=true by rw[hX];exact I9 _ _ _ _ _ _ _ _);have HXL:=O (show x.length=28 by rw[hX];rfl);obtain⟨asv,csv,Xa⟩:=mq.form;rw[ai]at Xa
 have acH:=O (show x2.drew.ownsRow a.heap.size 43 28 (.slice asv es.length csv) es.length (es.map LR).flatten by
  have q:=mq.2
  rwa [ai,Xa]at q)
 have afA:=O (show∀n c e,x2.drew.heap[n]?=some (.cells c e (0,0))->e≠43->(Value.slice asv es.length csv).ownBlock≠some n from fun n c e hn he=>by rw[<-Xa];exact mq.not hn he);have HES:=O (show∀y∈es.map LR,y.length=28/\∀u∈y,u.oneCell'=true from mq.1);have HBT:=O (h1.eL);have d288:=h1.st;rw[Xa]at d288 acG;have HR:=O hR;have HRU:=O (show U.heap.size<=R+1 from ab);have HX:=O PI;have Vz:=O hX
 have HK7:=O k7';have HK8:=O k8';have HXD:=O hxd;obtain⟨i0,qA,po,k_,lp⟩:=info_parts I_;generalize (g i).o=o at *
 generalize (g i).hs=hs at *
 generalize hnh:hs.length=nh at *
 generalize aqk:(t.tab i).mY=mY at *
 generalize aql:t.steps=steps at *
 clear hnh h1 h2 QH mq Cq h4 h' h hd Qh hh Xa dB k7 k8 k7' k8' hX PI hR hU2 aqk aql hxd;go_enter func88,ntmps88;go_wp2_with fail
 rw[<-HX.o, <-HR.o];clear HX;unfold Go.Proofs.YtnckmcnffadjoaaGreatDoor.aaR at F1
 refine wp_region_held_drew (S:=(fun V=>V.rangeAt T (17+i*45+1) [.int .i64 o.what,.int .i64 o.aJ.part,.bool o.aJ.cX.aE,.string o.aJ.cX.host,.int .i64 o.aJ.cX.port,.bool o.aJ.o.aE,.string o.aJ.o.host,.int .i64 o.aJ.o.port,.string o.aJ.path,.string o.aJ.query,.string o.aJ.method,.slice ah nh ch,.bool o.aJ.fN,.string o.aJ.body,.bool o.proxy,.string o.text,.string o.user,.string o.pass,.string o.bL,.int .i64 o.cert,.bool o.all,.int .i64 o.n]/\V.rangeAt R 0 [.int .i64 r.what,.string r.head,.int .i64 r.cert]/\V.cell? ⟨T,17+i*45+24,none⟩=some (.int .i64 mY)/\V.cell? ⟨T,287,none⟩=some (.int .i64 steps))) af (by exact F1) ?_
 intro Az;refine aW 0 11 rfl ?_;refine aW 1 12 rfl ?_;refine aW 2 13 rfl ?_;refine aW 3 14 rfl ?_;refine aW 5 16 rfl ?_;refine aW 6 17 rfl ?_;refine aW 7 18 rfl ?_;refine aW 8 19 rfl ?_
 refine wF 9 20 rfl (gW bC 41 (.tmp 19) rfl T (17+i*45+1) rfl ([.int .i64 o.what,.int .i64 o.aJ.part,.bool o.aJ.cX.aE,.string o.aJ.cX.host,.int .i64 o.aJ.cX.port,.bool o.aJ.o.aE,.string o.aJ.o.host,.int .i64 o.aJ.o.port,.string o.aJ.path,.string o.aJ.query,.string o.aJ.method,.slice ah nh ch,.bool o.aJ.fN,.string o.aJ.body,.bool o.proxy,.string o.text,.string o.user,.string o.pass,.string o.bL,.int .i64 o.cert,.bool o.all,.int .i64 o.n]) _ (fun w hw=>hw.1) underlying41 rfl af) ?_
 try simp only[Act.put,sA,sB,sC]
 refine wF 10 21 rfl (gW bC 30 (.tmp 7) rfl R 0 rfl ([.int .i64 r.what,.string r.head,.int .i64 r.cert]) _ (fun w hw=>hw.2.1) underlying30 rfl af) ?_
 try simp only[Act.put,sA,sB,sC]
 refine aW 11 22 rfl ?_;refine aW 12 23 rfl ?_;refine aW 13 24 rfl ?_;refine aW 14 25 rfl ?_;refine aW 15 26 rfl ?_;refine aW 16 27 rfl ?_;refine aW 17 28 rfl ?_;refine aW 18 29 rfl ?_
 have Yn:prog.built 43 [(0,.int .i64 i),(1,.agg #[.int .i64 o.what,.int .i64 o.aJ.part,.bool o.aJ.cX.aE,.string o.aJ.cX.host,.int .i64 o.aJ.cX.port,.bool o.aJ.o.aE,.string o.aJ.o.host,.int .i64 o.aJ.o.port,.string o.aJ.path,.string o.aJ.query,.string o.aJ.method,.slice ah nh ch,.bool o.aJ.fN,.string o.aJ.body,.bool o.proxy,.string o.text,.string o.user,.string o.pass,.string o.bL,.int .i64 o.cert,.bool o.all,.int .i64 o.n]),(2,.agg #[.int .i64 r.what,.string r.head,.int .i64 r.cert]),(3,.int .i64 mY),(4,.int .i64 steps)]=some x.toArray:=by rw[Vz.o];exact aaQ i o ah nh ch r mY steps
 refine wF 19 30 rfl (xI rfl 43 _ rfl x.toArray _ (by simp only[eF,cE,dt];rfl) Yn) ?_;clear Yn
 try simp only[Act.put,sA,sB,sC]
 have Ob:=O Az;have HD:=O d288;clear d288;refine wpAnyH_ready (rs:=[4,20]) af aR ?_;refine AllReadyH.cons rfl (fun K hK=>?hA) (AllReadyH.cons rfl (fun K hK=>?hB) AllReadyH.nil)
 case' hA =>
  have d288:=HD.o;go_simp;refine hK.out _ _ Ob.o ?_;intro yu;clear hK K yu d288
  try simp only[Act.put,sA,sB,sC]
  refine eT 20 rfl fun K hK=>?_;have zC:Instr.fill (fun i=>some (i*28,28)) ((Array.range (1*28)).map ((Value.agg Ew).cells[· %(Value.agg Ew).cells.size]!)) [(0,.agg x.toArray)]=some x.toArray:=by rw[Vz.o];exact OO i o ah nh ch r mY steps
  refine uZ rfl 25 43 1 _ rfl x.toArray i0 (.agg Ew) [(0,.agg x.toArray)] (by simp only[eF,cE,dt];rfl) underlying25 qA po (by rw[k_];decide) (by rw[k_];decide) (by rw[k_];exact zC) ?_;clear zC;obtain⟨x3,xv⟩:∃x3,x3=x2.drew.alloc (.cells x.toArray 43):=⟨_,rfl⟩;have EW:Fr aS x2.drew x3:=by rw[xv];exact(ae aS _).alloc _
  have afB:x3.heap.size=R+3:=by rw[xv];simp[HXD.o]
  have hN3:∀j u,x[j]?=some u->x3.cell? ((⟨R+2,0,none⟩:Addr).add j)=some u:=by
   rw[xv, <-HXD.o];exact kR _ x _
  have HO3:x3.ownsRow a.heap.size 43 28 (.slice asv es.length csv) es.length (es.map LR).flatten:=by rw[xv];exact World.ownsRow.alloc acH.o _
  have Fu:(x3).rangeAt T (17+i*45+1) [.int .i64 o.what,.int .i64 o.aJ.part,.bool o.aJ.cX.aE,.string o.aJ.cX.host,.int .i64 o.aJ.cX.port,.bool o.aJ.o.aE,.string o.aJ.o.host,.int .i64 o.aJ.o.port,.string o.aJ.path,.string o.aJ.query,.string o.aJ.method,.slice ah nh ch,.bool o.aJ.fN,.string o.aJ.body,.bool o.proxy,.string o.text,.string o.user,.string o.pass,.string o.bL,.int .i64 o.cert,.bool o.all,.int .i64 o.n]/\(x3).rangeAt R 0 [.int .i64 r.what,.string r.head,.int .i64 r.cert]/\(x3).cell? ⟨T,17+i*45+24,none⟩=some (.int .i64 mY)/\(x3).cell? ⟨T,287,none⟩=some (.int .i64 steps):=(⟨pX Ob.o.1 EW id,pX Ob.o.2.1 EW id,o9 Ob.o.2.2.1 EW id,o9 Ob.o.2.2.2 EW id⟩)
  have d288:=o9 HD.o EW id;rw[<-xv,HXD.o];refine hK.out _ _ Fu ?_;clear hK K xv;intro B7
 case' hB =>
  have zC:Instr.fill (fun i=>some (i*28,28)) ((Array.range (1*28)).map ((Value.agg Ew).cells[· %(Value.agg Ew).cells.size]!)) [(0,.agg x.toArray)]=some x.toArray:=by rw[Vz.o];exact OO i o ah nh ch r mY steps
  refine uZ rfl 25 43 1 _ rfl x.toArray i0 (.agg Ew) [(0,.agg x.toArray)] (by simp only[eF,cE,dt];rfl) underlying25 qA po (by rw[k_];decide) (by rw[k_];decide) (by rw[k_];exact zC) ?_;clear zC;obtain⟨x3,xv⟩:∃x3,x3=x2.drew.alloc (.cells x.toArray 43):=⟨_,rfl⟩;have EW:Fr aS x2.drew x3:=by rw[xv];exact(ae aS _).alloc _
  have afB:x3.heap.size=R+3:=by rw[xv];simp[HXD.o]
  have hN3:∀j u,x[j]?=some u->x3.cell? ((⟨R+2,0,none⟩:Addr).add j)=some u:=by
   rw[xv, <-HXD.o];exact kR _ x _
  have HO3:x3.ownsRow a.heap.size 43 28 (.slice asv es.length csv) es.length (es.map LR).flatten:=by rw[xv];exact World.ownsRow.alloc acH.o _
  have Fu:(x3).rangeAt T (17+i*45+1) [.int .i64 o.what,.int .i64 o.aJ.part,.bool o.aJ.cX.aE,.string o.aJ.cX.host,.int .i64 o.aJ.cX.port,.bool o.aJ.o.aE,.string o.aJ.o.host,.int .i64 o.aJ.o.port,.string o.aJ.path,.string o.aJ.query,.string o.aJ.method,.slice ah nh ch,.bool o.aJ.fN,.string o.aJ.body,.bool o.proxy,.string o.text,.string o.user,.string o.pass,.string o.bL,.int .i64 o.cert,.bool o.all,.int .i64 o.n]/\(x3).rangeAt R 0 [.int .i64 r.what,.string r.head,.int .i64 r.cert]/\(x3).cell? ⟨T,17+i*45+24,none⟩=some (.int .i64 mY)/\(x3).cell? ⟨T,287,none⟩=some (.int .i64 steps):=(⟨pX Ob.o.1 EW id,pX Ob.o.2.1 EW id,o9 Ob.o.2.2.1 EW id,o9 Ob.o.2.2.2 EW id⟩)
  have d288:=o9 HD.o EW id;rw[<-xv,HXD.o];refine hK.out _ _ Fu ?_;clear hK K xv;intro B7
  try simp only[Act.put,sA,sB,sC]
  refine eT 4 rfl fun K hK=>?_;go_simp;refine hK.out _ _ Fu ?_;intro Bh;clear hK K Bh
 all_goals
  try simp only[Act.put,sA,sB,sC]
  clear Az;refine eT 21 rfl fun K hK=>?_;refine step_append_lies (w:=x3) rfl (.tmp 15) (.tmp 31) 25 rfl a.heap.size 43 i0 _ 28 328 underlying25 qA po k_ lp rfl ab (.slice asv es.length csv) es.length _ rfl HO3 ⟨R+2,0,none⟩ 1 1 x rfl (by rw[HXL.o]) hN3 MU.o ab fx ab ab (R+3) afB ?_;intro gg cap w4 fa jC dT Lb
  have jZ:Fr (own (.slice asv es.length csv)) x2.drew w4:=fq (EW.mono (fun _ _ h=>absurd h id)) jC (fun _ hk _=>hk);have hm:=acG.o w4 (.slice (some ⟨gg,0,none⟩) (es.length+1) cap) r jZ (by
   refine⟨fun y hy=>?_,?_⟩
   ·rcases bR.1 hy with hy|hy
    ·exact HES.o y hy
    ·rcases df.1 hy with rfl
     rw[HEV.o, <-Vz.o];exact⟨HXL.o,MU.o⟩
   ·rw[HEV.o, <-Vz.o,aN,ai,en];simpa using fa)
  obtain⟨m1,m2,m3,m4,m5⟩:=hm;have HM5:=O ((eJ f_.o).trans m5);have HM2:=O m2;have Tp:=O m3;have HM4:=O m4;have nR:=afA.o R _ _ HK7.o ag;have nT:(Value.slice asv es.length csv).ownBlock≠some T:=by
   obtain⟨bt,Yn,_⟩:=HBT.o;exact afA.o T _ _ Yn ag
  have n7:=jZ.keep HK7.o nR;have n8:=jZ.keep HK8.o (afA.o _ _ _ HK8.o ag);have aqn:=m1.st;have f288:=m1.free 288
  have Bh:(w4).rangeAt T (17+i*45+1) [.int .i64 o.what,.int .i64 o.aJ.part,.bool o.aJ.cX.aE,.string o.aJ.cX.host,.int .i64 o.aJ.cX.port,.bool o.aJ.o.aE,.string o.aJ.o.host,.int .i64 o.aJ.o.port,.string o.aJ.path,.string o.aJ.query,.string o.aJ.method,.slice ah nh ch,.bool o.aJ.fN,.string o.aJ.body,.bool o.proxy,.string o.text,.string o.user,.string o.pass,.string o.bL,.int .i64 o.cert,.bool o.all,.int .i64 o.n]/\(w4).rangeAt R 0 [.int .i64 r.what,.string r.head,.int .i64 r.cert]/\(w4).cell? ⟨T,17+i*45+24,none⟩=some (.int .i64 mY)/\(w4).cell? ⟨T,287,none⟩=some (.int .i64 steps):=(⟨pX Ob.o.1 jZ nT,pX Ob.o.2.1 jZ nR,o9 Ob.o.2.2.1 jZ nT,o9 Ob.o.2.2.2 jZ nT⟩)
  have ZF:=O m1;refine hK.out _ _ Bh ?_;intro hS5;clear hK K m1 m2 m3 m4 m5 fa jC dT Lb HO3 hN3 Fu d288
  try simp only[Act.put,sA,sB,sC]
  refine aW 22 33 rfl ?_;refine aW 23 34 rfl ?_;refine eT 24 rfl fun K hK=>?_;go_simp;have hFT:Fr (one T) w4 (w4.setCell ⟨T,288,none⟩ (.slice (some ⟨gg,0,none⟩) (es.length+1) cap)):=(ae (one T) _).setCell (p:=⟨T,288,none⟩) (fun _=>rfl) _;have hRT:R≠T:=ab
  have hS6:(w4.setCell ⟨T,288,none⟩ (.slice (some ⟨gg,0,none⟩) (es.length+1) cap)).rangeAt T (17+i*45+1) [.int .i64 o.what,.int .i64 o.aJ.part,.bool o.aJ.cX.aE,.string o.aJ.cX.host,.int .i64 o.aJ.cX.port,.bool o.aJ.o.aE,.string o.aJ.o.host,.int .i64 o.aJ.o.port,.string o.aJ.path,.string o.aJ.query,.string o.aJ.method,.slice ah nh ch,.bool o.aJ.fN,.string o.aJ.body,.bool o.proxy,.string o.text,.string o.user,.string o.pass,.string o.bL,.int .i64 o.cert,.bool o.all,.int .i64 o.n]/\(w4.setCell ⟨T,288,none⟩ (.slice (some ⟨gg,0,none⟩) (es.length+1) cap)).rangeAt R 0 [.int .i64 r.what,.string r.head,.int .i64 r.cert]/\(w4.setCell ⟨T,288,none⟩ (.slice (some ⟨gg,0,none⟩) (es.length+1) cap)).cell? ⟨T,17+i*45+24,none⟩=some (.int .i64 mY)/\(w4.setCell ⟨T,288,none⟩ (.slice (some ⟨gg,0,none⟩) (es.length+1) cap)).cell? ⟨T,287,none⟩=some (.int .i64 steps):=(⟨yC Bh.1 bI,pX Bh.2.1 hFT (fun e=>hRT e),eU (vs:=[_]) Bh.2.2.1 (Or.inl ab),eU (vs:=[_]) Bh.2.2.2 (Or.inl ab)⟩)
  refine hK.out _ _ hS6 ?_;intro hS7;clear hK K hS7 hS5;refine wpAnyH_done af ?_ _;have p7:=hFT.keep n7 (fun e=>hRT e);have p8:=hFT.keep n8 (fun e=>by have e':R+1=T:=e;omega);have HP7:=O (((HM4.o).keep n7 (fun e=>hRT e)));have HP8:=O (((HM4.o).keep n8 (fun e=>by have e':R+1=T:=e;omega)));clear Bh hS6 n7 n8 aqn f288 jZ EW afB
  generalize w4.setCell ⟨T,288,none⟩ (.slice (some ⟨gg,0,none⟩) (es.length+1) cap)=W5 at *
  go_wp2_with (first|((with_reducible refine cW 72 ?_);refine iu rfl 72 _ _ rfl T (17+i*45) (mV fX zeroV).toArray rfl rfl Tp.o rfl (Ac _ _ rfl rfl) ?_)|((with_reducible refine di 38 ?_);refine aH rfl 30 (.tmp 7) rfl R rfl _ #[.int .i64 r.what,.string r.head,.int .i64 r.cert] (0,0) _ HP7.o underlying30 rfl (bf _ rfl) ?_)|((with_reducible refine cW 30 ?_);refine aF rfl 30 (.tmp 8) (.tmp 38) rfl (R+1) #[.int .i64 r.what,.string r.head,.int .i64 r.cert] rfl rfl _ bT HP8.o (bf _ rfl) rfl bW ?_)|fail)
  refine aU (jv bC _ _ (R+1) 30 #[.int .i64 r.what,.string r.head,.int .i64 r.cert] (0,0) _ rfl (aY _ (R+1) _ _ _ _ HP8.o) underlying30 rfl (bf _ rfl)) rfl ?_;exact⟨rfl,cO.far HM2.o ((ae (one (R+1)) _).setRow (fun _=>rfl) _) (fun n hn=>by have e':n=R+1:=hn;omega) (fun n hn=>by cases(show n=R+1 from hn);exact⟨_,_,HP8.o,I2⟩),HM5.o.new ((ae (one (R+1)) _).setRow (fun _=>rfl) _) HRU.o⟩
end
