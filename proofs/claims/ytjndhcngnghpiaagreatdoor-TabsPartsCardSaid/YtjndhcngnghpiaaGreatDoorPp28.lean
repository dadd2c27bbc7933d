/- Lemmas for the law's walk. -/
import Derived.Test.YtjndhcngnghpiaaGreatDoorPp18
set_option maxRecDepth 100000
set_option maxHeartbeats 16000000
set_option linter.unusedSimpArgs false
namespace Go.Proofs.YtjndhcngnghpiaaGreatDoor
open Go.Proofs.Tryz
open Go.RowKit
variable {k g T ch:Nat} {v:Value} {S:dB} {V U:World} {cs:a_} {o:jx} {ah:fi}
theorem QG:(prog.info? 142).map (fun i=>(i.zero,i.size,i.bytes))=some (some (.agg #[.string ⟨#[]⟩,.string ⟨#[]⟩]),2,32):=af
theorem zl{ops:Array Oper}{rest:List Oper}{o:Oper}{a:Act}{Q:Exit->Act->World->Prop}{w:World}(yc:o.guard=none)(s x:Operand)
  (ho:o.op=.call {callee:=.builtin .append,args:= #[s,x],argTypes:= #[27,27]})(base:Nat)(v:Value)(l:cX)(hs:a.eval s=v)(cQ:OwnRows base 142 2 w v l)
  (vx:Value)(m:cX)(hx:a.eval x=vx)(hm:ez 2 w vx m)(hlen:l.length+m.length<1000000000)(im:base<=w.heap.size)
  (h:∀v' w',OwnRows base 142 2 w' v' (l++m)->w.grownBy w' v.ownBlock->wpList prog ops Q rest (a.put o.dst v') w'):wpList prog ops Q (o :: rest) a w:=by
 obtain⟨i0,hi,pA,kP,kR⟩:=info_parts QG;obtain⟨ax,cx,gi⟩:=hm.form;have HM:=hm.1;cases ax with
 |none =>
  obtain⟨Wx,h2⟩:m=[]/\cx=0:=by
   rcases hm.2 with ⟨a',c',hv,hs,hc⟩|⟨bk,o',c,hf,_⟩
   ·rw[gi]at hv;injection hv with e1 e2 e3
    exact⟨hs,e3.trans (hc e1.symm)⟩
   ·rw[gi]at hf;injection hf with e1;cases e1
  subst Wx;have R7:a.eval x=.slice none 0 0:=by rw[hx,gi,h2];rfl
  refine wpList_append_own_none yc s x 27 ho base 142 i0 2 underlying27 hi v l.length l.flatten hs cQ.2 R7 ?_;exact h v w (by rw[eX];exact cQ) ⟨rfl,rfl,rfl,az _,fun _ _ _=>rfl⟩
 |some ad =>
  have yR:m.flatten.length=m.length*2:=f_ (fun x hx=>(HM x hx).1);refine wpList_append_own w yc s x 27 ho base 142 i0 (.agg #[.string ⟨#[]⟩,.string ⟨#[]⟩]) 2 32 underlying27 hi pA kP kR rfl ag v l.length l.flatten hs cQ.2 ad m.length cx m.flatten (hx.trans gi) yR ?_ ?_ ?_ ?_ im ?_
  ·intro j u hj;rcases hm.2 with ⟨_,_,_,e,_⟩|⟨bk,o',c,hf,g1,g2,g3,g4⟩
   ·subst e;simp at hj
   ·rw[hf]at gi;cases gi;have hjl:=(List.getElem?_eq_some_iff.1 hj).1;have hd:j/2<m.length:=ab;have hmo:j%2<2:=ab;have nZ:(m[j/2]).length=2:=(HM _ (bQ hd)).1;have e1:=qZ (k:=2) (xs:=m) (fun x hx=>(HM x hx).1) (j:=j/2) (List.getElem?_eq_getElem hd) (i:=j%2) (List.getElem?_eq_getElem (by rw[nZ];exact hmo));rw[Nat.div_add_mod']at e1;rw[e1]at hj;cases hj
    have:=g4 (j/2) _ (List.getElem?_eq_getElem hd) (j%2) _ (List.getElem?_eq_getElem (by rw[nZ];exact hmo));have ea:(Addr.add ⟨bk,o',none⟩ j)=⟨bk,o'+j,none⟩:=by unfold Addr.add;split<;>simp_all
    rw[ea, <-this]
    congr 2
    omega
  ·intro u hu;obtain⟨y,hy,huy⟩:=fG.1 hu;exact(HM y hy).2 u huy
  ·unfold maxLen;omega
  ·omega
  ·intro v' w' h1 h2 _;refine h v' w' ⟨fun y hy=>?_,by simpa using h1⟩ h2;rcases bO.1 hy with hy|hy
   ·exact cQ.1 y hy
   ·exact HM y hy
theorem rG{P:Program}{ops:Array Oper}{a:Act}{w:World}{K:Act->World->Prop}{Q:Exit->Act->World->Prop}{E:Prop}{op:Oper}(yc:op.guard=none)(ty:TypeId)(x y:Operand)(ho:op.op=.store ty x y)
  (b o:Nat)(cells:bW)(hx:a.eval x=.pointer (some ⟨b,o,none⟩))(hy:a.eval y=.agg cells)
  (ht:w.there b o cells.size)(hi:(P.info? ty).map (·.size)=some cells.size)(h1:cells.all (·.oneCell')=true)
  (h:K (a.put op.dst undef) (w.setCells b o cells.toList)):if Region.wanted op (yielded ops a.tmps)=true then Oper.wp P op a w K Q else E:=by
 have hw:Region.wanted op (yielded ops a.tmps)=true:=by simp[Region.wanted,yc]
 rw[aB hw];exact wp_store_mid ty x y ho b o cells hx hy ht hi h1 h
section
variable {xw : Option (Nat × ed)} {a U U' : World} {T : Nat} {t : iI}
def adi(o:jI)(hs:List gT)(a9:fi)(c9:Nat)(t:iI)(T N:Nat)(V:World):Prop:=V.rangeAt N 0 [.int .i64 o.what,.int .i64 o.aF.part,.bool o.aF.cG.aD,.string o.aF.cG.host,.int .i64 o.aF.cG.port,.bool o.aF.o.aD,.string o.aF.o.host,.int .i64 o.aF.o.port,.string o.aF.path,.string o.aF.query,.string o.aF.method,.slice a9 hs.length c9,.bool o.aF.fq,.string o.aF.body,.bool o.proxy,.string o.text,.string o.user,.string o.pass,.string o.bz,.int .i64 o.cert,.bool o.all,.int .i64 o.n]/\V.cell? ⟨T,287,none⟩=some (.int .i64 (t.steps+1))
theorem ez.fr1{w w':World}{xs:cX}(h:ez k w v xs)(hf:Fr S w w')(hn:xs≠ []->∀b,v.ownBlock=some b->¬S b):ez k w' v xs:=by
 by_cases e:xs=[]
 ·subst e;rcases h.2 with ⟨a,c,e1,_,e3⟩|⟨bk,o,c,e1,h1,h2,h3,h4⟩
  ·exact⟨h.1,Or.inl ⟨a,c,e1,rfl,e3⟩⟩
  ·exact⟨h.1,Or.inr ⟨bk,o,c,e1,h1,h2,cN h3 hf.size,fun j x hx=>by simp at hx⟩⟩
 ·exact h.fr hf (hn e)
theorem zm{N:Nat}{e:TypeId}(h:V.heap[N]?=some (.cells cs.toArray e (0,0))):V.rangeAt N 0 cs:=fun j v hv=>by
 rw[bw];simp only[World.cell?,h];simpa using hv
theorem YI{x1 W:World}{o:jI}{hs:List gT}{a9:fi}{c9 i N:Nat}(hi:i<6)(YJ:dz xw a W T {t with steps:=t.steps+1})(HO:gM x1 o hs)(hNT:N≠T)(hd:(t.tab i).does=0)
  (hk9:W.heap[N]?=some (.cells (jI.cells {o with aF:={o.aF with ef:=.slice a9 hs.length c9}}).toArray 33 (0,0)))(YK:OwnRows a.heap.size 142 2 W (.slice a9 hs.length c9) (hs.map gT.cells)) :
  adi o hs a9 c9 t T N W.drew/\W.drew.there T (17+i*45) 45/\adi o hs a9 c9 t T N (W.drew.setCells T (17+i*45) (mU {ib with does:=1,op:=o.dX hs,mr:=t.steps+1} ⟨{o with aF:={o.aF with ef:=.slice a9 hs.length c9}},hs,.pointer none⟩))/\dz xw a (W.drew.setCells T (17+i*45) (mU {ib with does:=1,op:=o.dX hs,mr:=t.steps+1} ⟨{o with aF:={o.aF with ef:=.slice a9 hs.length c9}},hs,.pointer none⟩)) T {(t.put i {ib with does:=1,op:=o.dX hs,mr:=t.steps+1})with steps:=t.steps+1}/\gH W (W.drew.setCells T (17+i*45) (mU {ib with does:=1,op:=o.dX hs,mr:=t.steps+1} ⟨{o with aF:={o.aF with ef:=.slice a9 hs.length c9}},hs,.pointer none⟩)):=by
 have adj:=YJ.dx (aA (ae aX W));have ah6:=YK.fr (aA (ae aX W)) (fun _ _ h=>h);obtain⟨B2,g2,sv2,sb2,h1,h2,h3,h4⟩:=adj.ex;have c3:=h1.steps;have ah7:W.drew.heap[N]?=some (.cells (jI.cells {o with aF:={o.aF with ef:=.slice a9 hs.length c9}}).toArray 33 (0,0)):=hk9;have q2:=h1.UC hi {ib with does:=1,op:=o.dX hs,mr:=t.steps+1} ⟨{o with aF:={o.aF with ef:=.slice a9 hs.length c9}},hs,.pointer none⟩
 refine⟨?_,h1.there ab,?_,?_,?_⟩
 ·exact⟨zm (cs:=jI.cells {o with aF:={o.aF with ef:=.slice a9 hs.length c9}}) ah7,c3⟩
 ·exact⟨zm (cs:=jI.cells {o with aF:={o.aF with ef:=.slice a9 hs.length c9}}) (q2.2.keep ah7 (fun e=>hNT e)),q2.1.steps⟩
 ·exact k_ (t':={(t.put i {ib with does:=1,op:=o.dX hs,mr:=t.steps+1})with steps:=t.steps+1}) h1 h2 h3 h4 adj.low adj.fr q2 rfl (UF (t':={(t.put i {ib with does:=1,op:=o.dX hs,mr:=t.steps+1})with steps:=t.steps+1}) rfl i (fun n hn=>ay hn) (by simp[iI.put]) (by simp[iI.put])) (fun j hj=>by
   by_cases ei:j=i
   ·subst ei;simp only[iI.put,d_];exact⟨fun _=>Or.inr ⟨{HO with ef:=ah6.at},rfl,ah6⟩,fun e=>by simp at e⟩
   ·simp only[iI.put,ay ei];exact⟨fun pY=>Or.inl ⟨trivial,trivial,trivial,pY⟩,(h4 j hj).2⟩)
 ·obtain⟨d,hdd,_⟩:=h1.eK;exact(eH (aA (ae aX W))).tabs hdd q2.2
theorem UU(o:jI)(hs:List gT)(a9:fi)(c9:Nat)(st:Int):prog.built 75 [(0,.int .i64 1),(1,.agg #[.int .i64 o.what,.int .i64 o.aF.part,.bool o.aF.cG.aD,.string o.aF.cG.host,.int .i64 o.aF.cG.port,.bool o.aF.o.aD,.string o.aF.o.host,.int .i64 o.aF.o.port,.string o.aF.path,.string o.aF.query,.string o.aF.method,.slice a9 hs.length c9,.bool o.aF.fq,.string o.aF.body,.bool o.proxy,.string o.text,.string o.user,.string o.pass,.string o.bz,.int .i64 o.cert,.bool o.all,.int .i64 o.n]),(3,.int .i64 st)]=some (mU {ib with does:=1,op:=o.dX hs,mr:=st} ⟨{o with aF:={o.aF with ef:=.slice a9 hs.length c9}},hs,.pointer none⟩).toArray:=af
theorem xi{P:Program}{ops:Array Oper}{S:World->Prop}{o:Oper}{a:Act}(hg:o.guard=none)(t:TypeId)(parts:Array (Nat×Operand))(ho:o.op=.build t parts)(cells:bW)(vs:List (Nat×Value))
  (he:(parts.map fun(i,x)=>(i,a.eval x)).toList=vs)(hf:P.built t vs=some cells):YieldsIf P ops S o (.agg cells) a :=
 Or.inl ⟨by simp[Region.wanted,hg],fun w _=>by
  unfold execOp;simp only[ho,Sem.run_bind,run_build w t _ cells (by rw[he];exact hf),Result.andThen_ok];rfl⟩
theorem Am(h:dz xw a U T t)(n:Int)(o:jI)(hs:List gT){k:Int}(hk:k<1000000)(oO:iC k t)(ho:gM U o hs)(hnh:hs≠ []->∀b,o.aF.ef.ownBlock=some b->b≠T)(hl:hs.length<100000) :
  aE 12 #[.pointer (some ⟨T,0,none⟩),.int .i64 n,.agg o.cells.toArray] U fun e w'=>e=.returned (Bm (Aj t n (o.dX hs)).2)/\dz xw a w' T (Aj t n (o.dX hs)).1/\gH U w':=by
 obtain⟨ah,ch,gu⟩:=ho.h_;obtain⟨x1,ov⟩:∃x1,x1=U.alloc (.cells o.cells.toArray 33):=⟨_,rfl⟩;have dw:Fr aX U x1:=by rw[ov];exact(ae aX U).alloc _
 have k1:x1.heap[U.heap.size]?=some (.cells o.cells.toArray 33 (0,0)):=by rw[ov];exact aC _ _
 have hT:T<U.heap.size:=by
  obtain⟨B,g,sv,sb,h1,_⟩:=h.ex;exact h1.lt
 have h':=h.dx dw;have lA:=O dw;have DL:=ho.dx dw;unfold Aj;cases hn:xV n
 ·as_aux_lemma =>
   have HC:=O (On x1 T hn);have HH:=O h';rw[dN gu]at ov ⊢;have HX:=O ov;clear hn h oO h' ho DL gu dw k1 ov hT;go_enter func12,ntmps12;go_wp2_with fail
   rw[<-HX.o];refine HC.o.mono ?_;rintro e u⟨rfl,rfl⟩;unfold Bm;go_wp2;go_ret;exact⟨rfl,HH.o,eH lA.o⟩
 ·obtain⟨i,rfl,hi⟩:=GM hn;obtain⟨B,g,sv,sb,h1,h2,h3,h4⟩:=h'.ex;have HC:=O (UE x1 T hi);have c:x1.cell? ⟨T,17+i*45,none⟩=some (.int .i64 (t.tab i).does):=h1.tab i hi 0 _ rfl;have c2:=h1.steps;have fz:=h1.free 287;have e1:((i:Int)).toNat=i:=rfl;rw[aB rfl,e1];by_cases hd:(t.tab i).does=0
  ·as_aux_lemma =>
    rw[aB hd];rw[hd]at c;have s1:=oO.steps.1;have s2:=oO.steps.2;have q1:=h1.Ka (t.steps+1);have HTB:=O (show gH U (x1.setCell ⟨T,287,none⟩ (.int .i64 (t.steps+1)))from by
     obtain⟨d,hdd,_⟩:=h1.eK;exact(eH dw).tabs hdd q1.2)
    have HI:=O (k_ (t':={t with steps:=t.steps+1}) h1 h2 h3 h4 h'.low h'.fr q1 rfl (fun j p hp=>hp) (fun j hj=>⟨fun pY=>Or.inl ⟨rfl,rfl,rfl,pY⟩,(h4 j hj).2⟩));have HO:=O DL;have kN:=q1.2.keep k1 (fun e=>by have e':U.heap.size=T:=e;omega);have HK:=O kN;have y11:(x1.setCell ⟨T,287,none⟩ (.int .i64 (t.steps+1))).cell? ⟨U.heap.size,11,none⟩=some (.slice ah hs.length ch):=by
     simp only[World.cell?,kN,dN gu];rfl
    have Hk:=O (show ot (x1.setCell ⟨T,287,none⟩ (.int .i64 (t.steps+1))) (.slice ah hs.length ch) hs from by
     have g1:=DL.ef;rw[gu]at g1;exact ez.fr1 g1 q1.2 (fun hne b hb=>hnh (fun e=>hne (by rw[e];rfl)) b (by rw[gu];exact hb)))
    have Hq:=O (show([]:cX).length+(hs.map gT.cells).length<1000000000 from bH);have HAN:=O (show a.heap.size<=U.heap.size from h.fr.size);have tF:=O (show a.heap.size<=(x1.setCell ⟨T,287,none⟩ (.int .i64 (t.steps+1))).heap.size by
     have u1:=h'.fr.size;have u2:=q1.2.size;omega)
    rw[dN gu]at ov ⊢;have HX:=O ov;have lf:=O gu;clear hn h oO h1 h2 h3 h4 q1 h' ho DL dw k1 ov kN gu;go_enter func12,ntmps12;go_wp2_with fail
    rw[<-HX.o];refine HC.o.mono ?_;rintro e u⟨rfl,rfl⟩
    go_wp2_with (at_builtin
                 refine zl rfl _ _ rfl a.heap.size _ [] rfl (dp _ _ _ _) _ (hs.map gT.cells) rfl Hk.o Hq.o tF.o ?_
                 intro v9 w9 uE YL
                 rw[List.nil_append]at uE
                 obtain⟨a9,c9,hv9⟩:=uE.form
                 rw[aj]at hv9
                 subst hv9
                 have Rx:Fr aX _ w9:=fg (ae _ _) YL (fun k hk=>by cases hk)
                 have k9:=Rx.keep HK.o id
                 have z11:w9.cell? ⟨U.heap.size,11,none⟩=some (.slice ah hs.length ch):=by
                   simp only[World.cell?,k9,dN lf.o]
                   rfl
                 have anC:w9.frozen? ⟨U.heap.size,11,none⟩=false:=by simp[World.frozen?,k9])
    have HI9:=O (HI.o.dx Rx);have hk9:(w9.setCell ⟨U.heap.size,11,none⟩ (.slice a9 hs.length c9)).heap[U.heap.size]?=some (.cells (jI.cells {o with aF:={o.aF with ef:=.slice a9 hs.length c9}}).toArray 33 (0,0)):=by
     rw[cg k9,dN lf.o];rfl
    have Ry:Fr (one U.heap.size) w9 (w9.setCell ⟨U.heap.size,11,none⟩ (.slice a9 hs.length c9)):=(ae (one U.heap.size) _).setCell (p:=⟨U.heap.size,11,none⟩) (fun _=>rfl) _;have YJ:=O (HI9.o.aside HAN.o k9 ⟨kX,ag⟩ ag ag ag ag Ry);have YK:=O (uE.fr Ry (fun g hg e=>uE.not k9 ag (by rw[hg];exact ar some e)));have HKW:=O ((HTB.o.trans (eH Rx)).new Ry (az _))
    clear Rx k9 z11 anC Ry uE YL y11 HTB HI9 HI Hk tF HK HX HC c c2 fz;generalize w9.setCell ⟨U.heap.size,11,none⟩ (.slice a9 hs.length c9)=W at *
    obtain⟨N,hN⟩:∃N,N=U.heap.size:=⟨_,rfl⟩;rw[<-hN]at hk9 ⊢;have fl:=YI (t:=t) hi YJ.o HO.o (show N≠T from ab) hd hk9 YK.o;clear hN hk9 YJ YK;obtain⟨X,hX⟩:∃X,X=(mU {ib with does:=1,op:=o.dX hs,mr:=t.steps+1} ⟨{o with aF:={o.aF with ef:=.slice a9 hs.length c9}},hs,.pointer none⟩):=⟨_,rfl⟩;rw[<-hX]at fl;have Fs:X.toArray.all (·.oneCell')=true:=by rw[hX];exact Du _ _ rfl rfl
    have Sz:X.length=45:=by rw[hX];rfl
    obtain⟨f1,f2,f3,f4,f5⟩:=fl;have HKT:=O (HKW.o.trans f5);have HT:=O (show W.drew.there T (17+i*45) X.toArray.size by rw[bd,Sz];exact f2);have ZR:=O Fs;have HXS:=O (show(prog.info? 75).map (·.size)=some X.toArray.size by rw[bd,Sz];kernel_rfl);have D2:=O f3;have HR:=O f4;have HXV:=O hX;have F1:=O f1;unfold adi at f1;clear hX Fs Sz f2 f3 f4 f5 HKW
    refine wp_region_held_drew (S:=(fun V=>V.rangeAt N 0 [.int .i64 o.what,.int .i64 o.aF.part,.bool o.aF.cG.aD,.string o.aF.cG.host,.int .i64 o.aF.cG.port,.bool o.aF.o.aD,.string o.aF.o.host,.int .i64 o.aF.o.port,.string o.aF.path,.string o.aF.query,.string o.aF.method,.slice a9 hs.length c9,.bool o.aF.fq,.string o.aF.body,.bool o.proxy,.string o.text,.string o.user,.string o.pass,.string o.bz,.int .i64 o.cert,.bool o.all,.int .i64 o.n]/\V.cell? ⟨T,287,none⟩=some (.int .i64 (t.steps+1)))) af (by exact f1) ?_
    intro xg;refine aP 0 37 rfl ?_;refine aP 2 39 rfl ?_;refine aP 3 40 rfl ?_;refine aP 4 41 rfl ?_
    refine sR 1 38 rfl (fB bB 33 (.tmp 5) rfl N 0 rfl ([.int .i64 o.what,.int .i64 o.aF.part,.bool o.aF.cG.aD,.string o.aF.cG.host,.int .i64 o.aF.cG.port,.bool o.aF.o.aD,.string o.aF.o.host,.int .i64 o.aF.o.port,.string o.aF.path,.string o.aF.query,.string o.aF.method,.slice a9 hs.length c9,.bool o.aF.fq,.string o.aF.body,.bool o.proxy,.string o.text,.string o.user,.string o.pass,.string o.bz,.int .i64 o.cert,.bool o.all,.int .i64 o.n]) _ (fun w hw=>hw.1) underlying33 rfl af) ?_
    try simp only[Act.put,sA,sB,sC]
    refine aP 5 42 rfl ?_
    have hbt:prog.built 75 [(0,.int .i64 1),(1,.agg #[.int .i64 o.what,.int .i64 o.aF.part,.bool o.aF.cG.aD,.string o.aF.cG.host,.int .i64 o.aF.cG.port,.bool o.aF.o.aD,.string o.aF.o.host,.int .i64 o.aF.o.port,.string o.aF.path,.string o.aF.query,.string o.aF.method,.slice a9 hs.length c9,.bool o.aF.fq,.string o.aF.body,.bool o.proxy,.string o.text,.string o.user,.string o.pass,.string o.bz,.int .i64 o.cert,.bool o.all,.int .i64 o.n]),(3,.int .i64 (t.steps+1))]=some X.toArray:=by rw[HXV.o];exact UU o hs a9 c9 (t.steps+1)
    refine sR 6 43 rfl (xi rfl 75 _ rfl X.toArray _ (by simp only[eM,cA,du];rfl) hbt) ?_;clear hbt
    try simp only[Act.put,sA,sB,sC]
    refine aP 7 44 rfl ?_;refine eE 8 rfl fun K hK=>?_;refine rG rfl 75 (.tmp 44) (.tmp 43) rfl T (17+i*45) X.toArray rfl rfl HT.o HXS.o ZR.o ?_;refine hK.out _ _ D2.o ?_;intro wM;clear hK xg wM K;refine wpAnyH_done af ?_ _;go_wp2;go_ret;exact⟨rfl,HR.o,HKT.o⟩
  ·as_aux_lemma =>
    rw[ay hd];have hd0:¬((t.tab i).does:Int)=0:=ab;have HH:=O h';rw[dN gu]at ov ⊢;have HX:=O ov;clear hn h oO h1 h2 h3 h4 h' ho DL gu dw k1 ov hT;go_enter func12,ntmps12;go_wp2_with fail
    rw[<-HX.o];refine HC.o.mono ?_;rintro e u⟨rfl,rfl⟩;go_wp2;go_ret;exact⟨rfl,HH.o,eH lA.o⟩
end
theorem adl(U:World)(T o:Nat){v:Int}(hc:U.cell? ⟨T,o,none⟩=some (.int .i64 v))(hf:U.frozen? ⟨T,o,none⟩=false)(h0:0<=v)(h1:v<1000000) :
  aE 55 #[.pointer (some ⟨T,o,none⟩)] U fun e w'=>e=.returned (.tuple #[])/\w'=U.setCell ⟨T,o,none⟩ (.int .i64 (v+1)):=by
 go_enter func55,ntmps55;go_wp2;go_end0;exact⟨rfl,rfl⟩
def MY(e:TypeId):Prop:=(fj e/\e≠97)/\e≠142/\e≠88/\e≠78/\e≠9
theorem YM:MY 3:=by unfold MY fj;decide
theorem UW:MY 109:=by unfold MY fj;decide
theorem GV:MY 46:=by unfold MY fj;decide
section
variable {xw : Option (Nat × ed)} {base : Nat} {a U U' : World} {T : Nat} {t : iI}
theorem xh.far{ws:Nat->Option (Nat×ed)}(h:xh base U ws)(hf:Fr S U U')(oX:∀n,S n->base<=n)(hk:∀n,S n->∃c e,U.heap[n]?=some (.cells c e (0,0))/\fj e/\e≠97/\e≠9):xh base U' ws:=by
 obtain⟨pv,h1,h2⟩:=h;refine⟨pv,fun i B x hi=>(h1 i B x hi).fr hf ?_ (fun k Xo e=>?_),h2⟩
 ·intro k hs _;obtain⟨c',e',q1,q2⟩:=hk k hs;exact⟨oX k hs,fun c f e=>by rw[q1]at e;cases e;exact q2.2.2 rfl⟩
 ·obtain⟨c',e',q1,q2⟩:=hk k e;exact(h1 i B x hi).Dm q1 q2.1 q2.2.1 Xo
theorem dz.far(h:dz xw a U T t)(hf:Fr S U U')(oX:∀n,S n->a.heap.size<=n)(hk:∀n,S n->∃c e,U.heap[n]?=some (.cells c e (0,0))/\MY e):dz xw a U' T t:=by
 obtain⟨B,g,sv,sb,g1,g2,g3,g4⟩:=h.ex;obtain⟨d,hd,_⟩:=g1.eK;have hT:¬S T:=fun e=>by
  obtain⟨c,e',h1,h2⟩:=hk T e;rw[hd]at h1;cases h1;exact h2.2.2.2.1 rfl
 have ho:∀ {v:jI×List gT} {o:jx},ka a.heap.size U v o->ka a.heap.size U' v o:=fun q=>q.rows (q.own.fr hf fun b hb hs=>by
  obtain⟨c,e',h1,h2⟩:=hk b hs;exact q.own.not h1 h2.2.1 hb)
 refine⟨⟨B,g,sv,sb,g1.fr hf hT,g2.far hf oX (fun n hn=>?_),?_,fun m hm=>⟨fun hd=>ho ((g4 m hm).1 hd),(g4 m hm).2⟩⟩,h.low,h.fr.step hf fun k hk e=>?_⟩
 ·obtain⟨c,e,h1,h2⟩:=hk n hn;exact⟨c,e,h1,h2.1.1,h2.1.2,h2.2.2.2.2⟩
 ·obtain⟨es,e1,e2,e3⟩:=g3;exact⟨es,e1,e2.fr hf fun b hb hs=>by
   obtain⟨c,e',h1,h2⟩:=hk b hs;exact e2.not h1 h2.2.2.1 hb,fun x hx=>ho (e3 x hx)⟩
 ·have:=oX k e;omega
end
def uX(n:Int):a_:=[.int .i64 n]
theorem Kv:(prog.info? 3).map (fun i=>(i.zero,i.size,i.bytes))=some (some (.int .i64 0),1,8):=af
def GW(base:Nat)(U:World)(V:Nat)(v:Value)(l:List Int)(e:Ending)(w':World):Prop :=
 e=.returned (.tuple #[])/\∃v',w'.heap[V]?=some (.cells #[v'] 109 (0,0))/\OwnRows base 3 1 w' v' (l.map uX)/\Fr (fun k=>k=V\/own v k) U w'
theorem Oq{base:Nat}{W:World}{V cap:Nat}{l:List Int}{x:Int}(hg:W.ownsRow base 3 1 (.slice (some ⟨g,0,none⟩) (l.length+1) cap) (l.length+1) ((l.map uX).flatten++[.int .i64 x]))(hV:W.heap[V]?=some (.cells #[v] 109 (0,0)))(hF:Fr (own v) U W) :
  GW base U V v (l++[x]) (.returned (.tuple #[])) (W.setCell ⟨V,0,none⟩ (.slice (some ⟨g,0,none⟩) (l.length+1) cap)):=by
 have ho:OwnRows base 3 1 W (.slice (some ⟨g,0,none⟩) (l.length+1) cap) ((l++[x]).map uX):=by
  refine⟨fun y hy=>?_,?_⟩
  ·obtain⟨n,_,rfl⟩:=cz.1 hy;exact⟨rfl,fun u hu=>by rcases dh.1 hu with rfl;rfl⟩
  ·have e:((l++[x]).map uX).length=l.length+1:=aS;have e2:((l++[x]).map uX).flatten=(l.map uX).flatten++[.int .i64 x]:=by simp[uX]
   rw[e,e2];exact hg
 have hs:Fr (one V) W (W.setCell ⟨V,0,none⟩ (.slice (some ⟨g,0,none⟩) (l.length+1) cap)):=(ae (one V) W).setCell (p:=⟨V,0,none⟩) (fun _=>rfl) _;refine⟨rfl,_,cg hV 0 _,ho.fr hs fun b hb e=>?_,((hF.mono fun _ _ h=>Or.inr h).step hs fun k hk e=>Or.inl e)⟩;exact ho.not hV ag (by rw[hb];exact ar some e)
section
variable {base : Nat} {U : World} {T o V : Nat} {v : Value} {l : List Int} {x : Int}
theorem adn(hV:U.heap[V]?=some (.cells #[v] 109 (0,0)))(hx:U.cell? ⟨T,o,none⟩=some (.int .i64 x))(cQ:OwnRows base 3 1 U v (l.map uX))(hb:base<=U.heap.size)(hl:l.length<1000) :
  aE 50 #[.pointer (some ⟨T,o,none⟩),.pointer (some ⟨V,0,none⟩)] U (GW base U V v (l++[x])):=by
 obtain⟨i0,rL,pA,kP,kR⟩:=info_parts Kv;obtain⟨av,cv,hv⟩:=cQ.form;rw[aj]at hv;subst hv;have d1:U.cell? ⟨V,0,none⟩=some (.slice av l.length cv):=by simp[World.cell?,hV]
 have e1:U.frozen? ⟨V,0,none⟩=false:=by simp[World.frozen?,hV]
 have hVl:=bg hV;have hne:(Value.slice av l.length cv).ownBlock≠some V:=cQ.not hV ag;have HV:=O hV;have HO:=O (show U.ownsRow base 3 1 (.slice av l.length cv) l.length (l.map uX).flatten by
  have h:=cQ.2
  rwa [aj]at h)
 clear hV cQ;go_enter func50,ntmps50
 go_region_law ((with_reducible refine mF ⟨some 8,_,_,_,_,_⟩ ?_)
                refine step_append_lies _ bB _ _ _ bB base 3 i0 _ 1 8 underlying109 rL pA kP kR rfl ab (.slice av l.length cv) l.length _ bB (by have Ho:=HO.o;repeat(first|exact Ho|apply World.ownsRow.alloc|apply World.ownsRow.drew)) ⟨U.heap.size,0,none⟩ 1 1 [.int .i64 x] bB bB (ky U [.int .i64 x] _) (by intro u hu;rcases dh.1 hu with rfl;rfl) ab ft ab bH (U.heap.size+1) aS ?_
                intro gg cap w4 eV jq dT Jz
                have jN:Fr (own (.slice av l.length cv)) U w4:=fg (by repeat(first|exact ae _ _|apply aA|apply bq)) jq (fun _ hk _=>hk)
                have b4:=jN.keep HV.o (fun e=>hne e)
                have k4:w4.cell? ⟨V,0,none⟩=some (.slice av l.length cv):=by simp[World.cell?,b4]
                have e4:w4.frozen? ⟨V,0,none⟩=false:=by simp[World.frozen?,b4])
 all_goals
  go_end0;exact Oq eV b4 jN
theorem ado(hV:U.heap[V]?=some (.cells #[v] 109 (0,0)))(hx:U.cell? ⟨T,o,none⟩=some (.int .i64 x))(cQ:OwnRows base 3 1 U v (l.map uX))(hb:base<=U.heap.size)(hl:l.length<1000) :
  aE 51 #[.pointer (some ⟨T,o,none⟩),.pointer (some ⟨V,0,none⟩)] U (GW base U V v (l++[x])):=by
 obtain⟨i0,rL,pA,kP,kR⟩:=info_parts Kv;obtain⟨av,cv,hv⟩:=cQ.form;rw[aj]at hv;subst hv;have d1:U.cell? ⟨V,0,none⟩=some (.slice av l.length cv):=by simp[World.cell?,hV]
 have e1:U.frozen? ⟨V,0,none⟩=false:=by simp[World.frozen?,hV]
 have hVl:=bg hV;have hne:(Value.slice av l.length cv).ownBlock≠some V:=cQ.not hV ag;have HV:=O hV;have HO:=O (show U.ownsRow base 3 1 (.slice av l.length cv) l.length (l.map uX).flatten by
  have h:=cQ.2
  rwa [aj]at h)
 clear hV cQ;go_enter func51,ntmps51
 go_region_law ((with_reducible refine mF ⟨some 8,_,_,_,_,_⟩ ?_)
                refine step_append_lies _ bB _ _ _ bB base 3 i0 _ 1 8 underlying109 rL pA kP kR rfl ab (.slice av l.length cv) l.length _ bB (by have Ho:=HO.o;repeat(first|exact Ho|apply World.ownsRow.alloc|apply World.ownsRow.drew)) ⟨U.heap.size,0,none⟩ 1 1 [.int .i64 x] bB bB (ky U [.int .i64 x] _) (by intro u hu;rcases dh.1 hu with rfl;rfl) ab ft ab bH (U.heap.size+1) aS ?_
                intro gg cap w4 eV jq dT Jz
                have jN:Fr (own (.slice av l.length cv)) U w4:=fg (by repeat(first|exact ae _ _|apply aA|apply bq)) jq (fun _ hk _=>hk)
                have b4:=jN.keep HV.o (fun e=>hne e)
                have k4:w4.cell? ⟨V,0,none⟩=some (.slice av l.length cv):=by simp[World.cell?,b4]
                have e4:w4.frozen? ⟨V,0,none⟩=false:=by simp[World.frozen?,b4])
 all_goals
  go_end0;exact Oq eV b4 jN
end
def xX(o:jx)(k:Nat):List (Nat×Nat):=([0,1,2,3].take k).filterMap fun i=>if(dV o).1.testBit i then some (if i=3 then 0 else o.part.toNat,i)else none
theorem zo(hk:k<4)(hb:(dV o).1.testBit k=false):xX o (k+1)=xX o k:=by
 rcases(show k=0\/k=1\/k=2\/k=3 from ab)with rfl|rfl|rfl|rfl<;>simp[xX,List.filterMap_cons,hb]
theorem Kw(hk:k<4)(hb:(dV o).1.testBit k=true):xX o (k+1)=xX o k++[(if k=3 then 0 else o.part.toNat,k)]:=by
 rcases(show k=0\/k=1\/k=2\/k=3 from ab)with rfl|rfl|rfl|rfl
 ·simp[xX,hb]
 ·have e:∀f:Nat->Option (Nat×Nat),([0,1]:List Nat).filterMap f=[0].filterMap f++[1].filterMap f:=fun f=>iU (l:=[0]) (l':=[1]);simp only[xX,List.take];rw[e];simp[hb]
 ·have e:∀f:Nat->Option (Nat×Nat),([0,1,2]:List Nat).filterMap f=[0,1].filterMap f++[2].filterMap f:=fun f=>iU (l:=[0,1]) (l':=[2]);simp only[xX,List.take];rw[e];simp[hb]
 ·have e:∀f:Nat->Option (Nat×Nat),([0,1,2,3]:List Nat).filterMap f=[0,1,2].filterMap f++[3].filterMap f:=fun f=>iU (l:=[0,1,2]) (l':=[3]);simp only[xX,List.take];rw[e];simp[hb]
theorem QH(o:jx)(k:Nat):∃r,j_ o=xX o k++r:=⟨([0,1,2,3].drop k).filterMap fun i=>if(dV o).1.testBit i then some (if i=3 then 0 else o.part.toNat,i)else none,by
 unfold xX j_;rw[<-iU,fH]⟩
theorem UX(hk:k<4)(hb:(dV o).1.testBit k=true):∃r,j_ o=xX o k++(if k=3 then 0 else o.part.toNat,k) :: r:=by
 obtain⟨r,hr⟩:=QH o (k+1);exact⟨r,by rw[hr,Kw hk hb,cK,List.singleton_append]⟩
theorem MZ(o:jx):(dV o).1=0\/(((dV o).1=1\/(dV o).1=4\/(dV o).1=7\/(dV o).1=8\/(dV o).1=10)/\o.right=true):=by
 cases hr:o.right
 ·exact Or.inl (by rw[wF hr])
 ·unfold dV;rw[hr];simp only[d_]
  repeat' split
  all_goals simp
def UY(R:List (Nat×Nat)->World->Prop)(o:jx)(bx:Nat)(X:bW)(i:Value)(wr:World):Prop :=
 ∃k:Nat,k<=4/\i=.int .i64 k/\R (xX o k) wr/\wr.heap[bx]?=some (.cells X 33 (0,0))
def ux(R:List (Nat×Nat)->World->Prop)(o:jx)(T g:Nat)(cap:bW):Prop :=
 ∀d c r,j_ o=d++c :: r->∀V:World,R d V->aE g (#[.pointer (some ⟨T,1+c.1*4+c.2,none⟩)]++cap) V fun e w'=>e=.returned (.tuple #[])/\R (d++[c]) w'/\∀(n:Nat) (k:bW),V.heap[n]?=some (.cells k 33 (0,0))->w'.heap[n]?=some (.cells k 33 (0,0))
theorem UZ{R:List (Nat×Nat)->World->Prop}{cap:bW}{bx:Nat}{X:bW}(iQ:ux R o T g cap)(hk:k<4)(hb:(dV o).1.testBit k=true){p:Nat}(hp:(if k=3 then 0 else o.part.toNat)=p)(hR:R (xX o k) V)(rh:V.heap[bx]?=some (.cells X 33 (0,0))) :
  aE g (#[.pointer (some ⟨T,1+p*4+k,none⟩)]++cap) V fun e w'=>e=.returned (.tuple #[])/\R (xX o (k+1)) w'/\w'.heap[bx]?=some (.cells X 33 (0,0)):=by
 obtain⟨r,hr⟩:=UX hk hb;rw[hp]at hr;refine(iQ _ _ _ hr V hR).mono ?_;rintro e w'⟨h1,h2,h3⟩;rw[Kw hk hb,hp];exact⟨h1,h2,h3 _ _ rh⟩
theorem QI(U:World)(T:Nat)(o:jI)(hs:List gT)(g:Nat)(cap:bW)(_eg:∀args w,(callFunc g args).run prog w=.ok (.enter g args) w)(R:List (Nat×Nat)->World->Prop)(h0:R [] U)(cR:∀d V V',R d V->Fr aX V V'->R d V')(iQ:ux R (o.dX hs) T g cap)(ho:gM U o hs)(hc:(dV (o.dX hs)).1=0) :
  aE 49 #[.pointer (some ⟨T,0,none⟩),.agg o.cells.toArray,.func (.func g) #[] cap] U fun e w'=>e=.returned (.tuple #[])/\R (j_ (o.dX hs)) w':=by
 obtain⟨ah,ch,gu⟩:=ho.h_;obtain⟨x1,ov⟩:∃x1,x1=U.alloc (.cells o.cells.toArray 33):=⟨_,rfl⟩;have dw:Fr aX U x1:=by rw[ov];exact(ae aX U).alloc _
 have HK:=O (show x1.heap[U.heap.size]?=some (.cells o.cells.toArray 33 (0,0))by rw[ov];exact aC _ _);have HC:=O (tH x1 o hs (ho.dx dw));have HR1:=O (cR _ _ _ h0 dw);have mC:=O iQ;have ue:=O cR;rw[hc]at HC;have wL:=O hc;rw[dN gu]at ov HK HC ⊢;have HX:=O ov;have lf:=O gu;clear gu dw ov iQ cR h0 ho hc;go_enter func49,ntmps49
 have uW:=O (aC U (.cells #[.int .i64 o.what,.int .i64 o.aF.part,.bool o.aF.cG.aD,.string o.aF.cG.host,.int .i64 o.aF.cG.port,.bool o.aF.o.aD,.string o.aF.o.host,.int .i64 o.aF.o.port,.string o.aF.path,.string o.aF.query,.string o.aF.method,.slice ah hs.length ch,.bool o.aF.fq,.string o.aF.body,.bool o.proxy,.string o.text,.string o.user,.string o.pass,.string o.bz,.int .i64 o.cert,.bool o.all,.int .i64 o.n] 33))
 go_wp2_with (first|((with_reducible refine dt 11 ?_);refine aJ rfl 33 (.tmp 4) rfl U.heap.size rfl _ #[.int .i64 o.what,.int .i64 o.aF.part,.bool o.aF.cG.aD,.string o.aF.cG.host,.int .i64 o.aF.cG.port,.bool o.aF.o.aD,.string o.aF.o.host,.int .i64 o.aF.o.port,.string o.aF.path,.string o.aF.query,.string o.aF.method,.slice ah hs.length ch,.bool o.aF.fq,.string o.aF.body,.bool o.proxy,.string o.text,.string o.user,.string o.pass,.string o.bz,.int .i64 o.cert,.bool o.all,.int .i64 o.n] (0,0) _ uW.o underlying33 rfl af ?_)|fail)
 rw[<-HX.o];refine HC.o.mono ?_;rintro e u⟨rfl,hu⟩;have Ln:=O (ue.o _ _ _ HR1.o hu);have qt:=O (hu.keep HK.o id);clear hu HR1 HK HC HX uW;generalize U.heap.size=bx at *
 go_wp2
 go_loopw[15] (UY R (o.dX hs) bx #[.int .i64 o.what,.int .i64 o.aF.part,.bool o.aF.cG.aD,.string o.aF.cG.host,.int .i64 o.aF.cG.port,.bool o.aF.o.aD,.string o.aF.o.host,.int .i64 o.aF.o.port,.string o.aF.path,.string o.aF.query,.string o.aF.method,.slice ah hs.length ch,.bool o.aF.fq,.string o.aF.body,.bool o.proxy,.string o.text,.string o.user,.string o.pass,.string o.bz,.int .i64 o.cert,.bool o.all,.int .i64 o.n]) (fun i _=>4-(intOf i).toNat)
 case atStart=>exact⟨0,aW _,rfl,Ln.o,qt.o⟩
 case round =>
  obtain⟨k,hk,rfl,hR,rh⟩:=hrel;clear Ln qt;have HR:=O hR;have HB:=O rh;clear hR rh;rcases(show k=0\/k=1\/k=2\/k=3\/k=4 from ab)with rfl|rfl|rfl|rfl|rfl
  ·have HN:=O (zo (o:=o.dX hs) (k:=0) ag (by rw[wL.o];decide));go_wp2;go_roundw
   case rel=>exact⟨1,ab,bh,by rw[HN.o];exact HR.o,HB.o⟩
   case measure=>simp[intOf]
  ·have HN:=O (zo (o:=o.dX hs) (k:=1) ag (by rw[wL.o];decide));go_wp2;go_roundw
   case rel=>exact⟨2,ab,bh,by rw[HN.o];exact HR.o,HB.o⟩
   case measure=>simp[intOf]
  ·have HN:=O (zo (o:=o.dX hs) (k:=2) ag (by rw[wL.o];decide));go_wp2;go_roundw
   case rel=>exact⟨3,ab,bh,by rw[HN.o];exact HR.o,HB.o⟩
   case measure=>simp[intOf]
  ·have HN:=O (zo (o:=o.dX hs) (k:=3) ag (by rw[wL.o];decide));go_wp2;go_roundw
   case rel=>exact⟨4,ab,bh,by rw[HN.o];exact HR.o,HB.o⟩
   case measure=>simp[intOf]
  ·go_wp2;go_end0;exact⟨rfl,HR.o⟩
theorem M0(U:World)(T:Nat)(o:jI)(hs:List gT)(g:Nat)(cap:bW)(eg:∀args w,(callFunc g args).run prog w=.ok (.enter g args) w)(R:List (Nat×Nat)->World->Prop)(h0:R [] U)(cR:∀d V V',R d V->Fr aX V V'->R d V')(iQ:ux R (o.dX hs) T g cap)(ho:gM U o hs)(hc:(dV (o.dX hs)).1=1\/(dV (o.dX hs)).1=4\/(dV (o.dX hs)).1=7\/(dV (o.dX hs)).1=8\/(dV (o.dX hs)).1=10)(hr:(o.dX hs).right=true) :
  aE 49 #[.pointer (some ⟨T,0,none⟩),.agg o.cells.toArray,.func (.func g) #[] cap] U fun e w'=>e=.returned (.tuple #[])/\R (j_ (o.dX hs)) w':=by
 rcases hc with hc|hc|hc|hc|hc
 all_goals
  obtain⟨ah,ch,gu⟩:=ho.h_;obtain⟨x1,ov⟩:∃x1,x1=U.alloc (.cells o.cells.toArray 33):=⟨_,rfl⟩;have dw:Fr aX U x1:=by rw[ov];exact(ae aX U).alloc _
  have HK:=O (show x1.heap[U.heap.size]?=some (.cells o.cells.toArray 33 (0,0))by rw[ov];exact aC _ _);have HC:=O (tH x1 o hs (ho.dx dw));have HR1:=O (cR _ _ _ h0 dw);have mC:=O iQ;have ue:=O cR;rw[hc]at HC;have wL:=O hc;obtain⟨p0,p4⟩:=ja hr;obtain⟨p,hp⟩:∃p:Nat,o.aF.part=(p:Int):=⟨o.aF.part.toNat,by have:(o.dX hs).part=o.aF.part:=rfl;omega⟩;have hp4:p<4:=by have:(o.dX hs).part=o.aF.part:=rfl;omega
  have HP:=O hp;have HPT:=O (show(o.dX hs).part.toNat=p by have:(o.dX hs).part=o.aF.part:=rfl;omega);have q1:(p:Int)<4:=ab;have q2:(0:Int)<=(p:Int):=ab;have q3:¬(p:Int)<0:=ab;have q4:¬(4:Int)<=(p:Int):=ab;rw[dN gu]at ov HK HC ⊢;have HX:=O ov;have lf:=O gu;clear gu dw ov iQ cR h0 ho hc hr p0 p4 hp;go_enter func49,ntmps49
  have uW:=O (aC U (.cells #[.int .i64 o.what,.int .i64 o.aF.part,.bool o.aF.cG.aD,.string o.aF.cG.host,.int .i64 o.aF.cG.port,.bool o.aF.o.aD,.string o.aF.o.host,.int .i64 o.aF.o.port,.string o.aF.path,.string o.aF.query,.string o.aF.method,.slice ah hs.length ch,.bool o.aF.fq,.string o.aF.body,.bool o.proxy,.string o.text,.string o.user,.string o.pass,.string o.bz,.int .i64 o.cert,.bool o.all,.int .i64 o.n] 33))
  go_wp2_with (first|((with_reducible refine dt 11 ?_);refine aJ rfl 33 (.tmp 4) rfl U.heap.size rfl _ #[.int .i64 o.what,.int .i64 o.aF.part,.bool o.aF.cG.aD,.string o.aF.cG.host,.int .i64 o.aF.cG.port,.bool o.aF.o.aD,.string o.aF.o.host,.int .i64 o.aF.o.port,.string o.aF.path,.string o.aF.query,.string o.aF.method,.slice ah hs.length ch,.bool o.aF.fq,.string o.aF.body,.bool o.proxy,.string o.text,.string o.user,.string o.pass,.string o.bz,.int .i64 o.cert,.bool o.all,.int .i64 o.n] (0,0) _ uW.o underlying33 rfl af ?_)|fail)
  rw[<-HX.o];refine HC.o.mono ?_;rintro e u⟨rfl,hu⟩;have Ln:=O (ue.o _ _ _ HR1.o hu);have qt:=O (hu.keep HK.o id);clear hu HR1 HK HC HX uW;generalize U.heap.size=bx at *
  go_wp2
  go_loopw[15] (UY R (o.dX hs) bx #[.int .i64 o.what,.int .i64 o.aF.part,.bool o.aF.cG.aD,.string o.aF.cG.host,.int .i64 o.aF.cG.port,.bool o.aF.o.aD,.string o.aF.o.host,.int .i64 o.aF.o.port,.string o.aF.path,.string o.aF.query,.string o.aF.method,.slice ah hs.length ch,.bool o.aF.fq,.string o.aF.body,.bool o.proxy,.string o.text,.string o.user,.string o.pass,.string o.bz,.int .i64 o.cert,.bool o.all,.int .i64 o.n]) (fun i _=>4-(intOf i).toNat)
  case atStart=>exact⟨0,aW _,rfl,Ln.o,qt.o⟩
  case round =>
   obtain⟨k,hk,rfl,hR,rh⟩:=hrel;clear Ln qt;have HR:=O hR;have HB:=O rh;clear hR rh;have c1:wr.cell? ⟨bx,1,none⟩=some (.int .i64 p):=by simp[World.cell?,HB.o,HP.o]
   by_cases I7:k<4
   ·cases hb:(dV (o.dX hs)).1.testBit k
    ·have HN:=O (zo I7 hb);rw[wL.o]at hb;rcases(show k=0\/k=1\/k=2\/k=3 from ab)with rfl|rfl|rfl|rfl
     all_goals first
      |exact absurd hb ag
      |(clear hb
        go_wp2
        go_roundw
        case rel=>first|exact⟨1,ab,bh,by rw[HN.o];exact HR.o,HB.o⟩|exact⟨2,ab,bh,by rw[HN.o];exact HR.o,HB.o⟩|exact⟨3,ab,bh,by rw[HN.o];exact HR.o,HB.o⟩|exact⟨4,ab,bh,by rw[HN.o];exact HR.o,HB.o⟩
        case measure=>simp[intOf])
    ·have hq:∃q:Nat,q=(if k=3 then 0 else(o.dX hs).part.toNat):=⟨_,rfl⟩;obtain⟨q,hq⟩:=hq;have ah_:=O (UZ (p:=q) mC.o I7 hb hq.symm HR.o HB.o);rw[HPT.o]at hq;rw[wL.o]at hb;rcases(show k=0\/k=1\/k=2\/k=3 from ab)with rfl|rfl|rfl|rfl
     all_goals first
      |exact absurd hb ag
      |(clear hb HR HB
        first|rw[ay ag]at hq|rw[aB rfl]at hq
        subst hq
        go_wp2_with fail
        refine ah_.o.mono ?_
        rintro e w1⟨rfl,g1,g2⟩
        go_wp2
        go_roundw
        case rel=>first|exact⟨1,ab,bh,g1,g2⟩|exact⟨2,ab,bh,g1,g2⟩|exact⟨3,ab,bh,g1,g2⟩|exact⟨4,ab,bh,g1,g2⟩
        case measure=>simp[intOf])
   ·obtain rfl:k=4:=ab;go_wp2;go_end0;exact⟨rfl,HR.o⟩
theorem vV(U:World)(T:Nat)(o:jI)(hs:List gT)(g:Nat)(cap:bW)(eg:∀args w,(callFunc g args).run prog w=.ok (.enter g args) w)(R:List (Nat×Nat)->World->Prop)(h0:R [] U)(cR:∀d V V',R d V->Fr aX V V'->R d V')(iQ:ux R (o.dX hs) T g cap)(ho:gM U o hs) :
  aE 49 #[.pointer (some ⟨T,0,none⟩),.agg o.cells.toArray,.func (.func g) #[] cap] U fun e w'=>e=.returned (.tuple #[])/\R (j_ (o.dX hs)) w':=by
 rcases MZ (o.dX hs)with hc|⟨hc|hc|hc|hc|hc,hr⟩
 ·exact QI U T o hs g cap eg R h0 cR iQ ho hc
 all_goals exact M0 U T o hs g cap eg R h0 cR iQ ho (by simp[hc]) hr
theorem ji{P:Program}{fn:Func}{p u v:Tmp}{ty:TypeId}(h:fn.results= #[.cell p ty,.tmp u,.tmp v])(tmps:bW)(w:World)(g:Nat)(t:TypeId)(cs:bW)(fr:Nat×Nat)(d:TypeDesc)
  (hp:tmps.getD p undef=.pointer (some ⟨g,0,none⟩))(hg:w.heap[g]?=some (.cells cs t fr))
  (hu:P.underlying ty=some d)(hd:(match d with| .struct _| .array _ _=>true|_=>false)=true)(hi:(P.info? ty).map (·.size)=some cs.size) :
  (results fn tmps).run P w=.ok (.tuple #[.agg cs,tmps.getD u undef,tmps.getD v undef]) w:=by
 have hp':tmps[p]?.getD undef=.pointer (some ⟨g,0,none⟩):=by simpa using hp
 simp[results,h,hp',asAddr,run_loadVar_row w g t ty cs fr d hg hu hd hi,Result.andThen]
def Rz(n:Nat)(o:jI)(ah:fi)(nh ch:Nat)(r:kq)(mr fin:Int):a_:=[.int .i64 n,.int .i64 o.what,.int .i64 o.aF.part,.bool o.aF.cG.aD,.string o.aF.cG.host,.int .i64 o.aF.cG.port,.bool o.aF.o.aD,.string o.aF.o.host,.int .i64 o.aF.o.port,.string o.aF.path,.string o.aF.query,.string o.aF.method,.slice ah nh ch,.bool o.aF.fq,.string o.aF.body,.bool o.proxy,.string o.text,.string o.user,.string o.pass,.string o.bz,.int .i64 o.cert,.bool o.all,.int .i64 o.n,.int .i64 r.what,.string r.head,.int .i64 r.cert,.int .i64 mr,.int .i64 fin]
theorem GX{n:Nat}{o:jI}{hs:List gT}(h:o.aF.ef=.slice ah hs.length ch)(op:jx)(r:kq)(mr fin:Int):Kc (⟨n,op,r,mr,fin⟩,(o,hs))=Rz n o ah hs.length ch r mr fin:=by
 unfold Kc jI.cells fW.cells;rw[h];rfl
theorem U0{o:jI}{nh:Nat}(h:o.aF.ef=.slice ah nh ch):o.cells=[.int .i64 o.what,.int .i64 o.aF.part,.bool o.aF.cG.aD,.string o.aF.cG.host,.int .i64 o.aF.cG.port,.bool o.aF.o.aD,.string o.aF.o.host,.int .i64 o.aF.o.port,.string o.aF.path,.string o.aF.query,.string o.aF.method,.slice ah nh ch,.bool o.aF.fq,.string o.aF.body,.bool o.proxy,.string o.text,.string o.user,.string o.pass,.string o.bz,.int .i64 o.cert,.bool o.all,.int .i64 o.n]:=by
 unfold jI.cells fW.cells;rw[h];rfl
theorem GY(n:Nat)(o:jI)(ah:fi)(nh ch:Nat)(r:kq)(mr fin:Int):∀u∈Rz n o ah nh ch r mr fin,u.oneCell'=true:=by
 intro u hu;unfold Rz at hu;simp only[bE,bU,dL]at hu;rcases hu with rfl|rfl|rfl|rfl|rfl|rfl|rfl|rfl|rfl|rfl|rfl|rfl|rfl|rfl|rfl|rfl|rfl|rfl|rfl|rfl|rfl|rfl|rfl|rfl|rfl|rfl|rfl|rfl<;>rfl
theorem YN(n:Nat)(o:jI)(ah:fi)(nh ch:Nat)(r:kq)(mr fin:Int):prog.built 88 [(0,.int .i64 n),(1,.agg #[.int .i64 o.what,.int .i64 o.aF.part,.bool o.aF.cG.aD,.string o.aF.cG.host,.int .i64 o.aF.cG.port,.bool o.aF.o.aD,.string o.aF.o.host,.int .i64 o.aF.o.port,.string o.aF.path,.string o.aF.query,.string o.aF.method,.slice ah nh ch,.bool o.aF.fq,.string o.aF.body,.bool o.proxy,.string o.text,.string o.user,.string o.pass,.string o.bz,.int .i64 o.cert,.bool o.all,.int .i64 o.n]),(2,.agg #[.int .i64 r.what,.string r.head,.int .i64 r.cert]),(3,.int .i64 mr),(4,.int .i64 fin)]=some (Rz n o ah nh ch r mr fin).toArray:=af
def Dv:bW:= #[.int .i64 0,.int .i64 0,.int .i64 0,.bool false,.string ⟨#[]⟩,.int .i64 0,.bool false,.string ⟨#[]⟩,.int .i64 0,.string ⟨#[]⟩,.string ⟨#[]⟩,.string ⟨#[]⟩,.slice none 0 0,.bool false,.string ⟨#[]⟩,.bool false,.string ⟨#[]⟩,.string ⟨#[]⟩,.string ⟨#[]⟩,.string ⟨#[]⟩,.int .i64 0,.bool false,.int .i64 0,.int .i64 0,.string ⟨#[]⟩,.int .i64 0,.int .i64 0,.int .i64 0]
theorem GZ:(prog.info? 88).map (fun i=>(i.zero,i.size,i.bytes))=some (some (.agg Dv),28,328):=af
theorem M1(n:Nat)(o:jI)(ah:fi)(nh ch:Nat)(r:kq)(mr fin:Int):Instr.fill (fun i=>some (i*28,28)) ((Array.range (1*28)).map ((Value.agg Dv).cells[· %(Value.agg Dv).cells.size]!)) [(0,.agg (Rz n o ah nh ch r mr fin).toArray)]=some (Rz n o ah nh ch r mr fin).toArray:=af
theorem uH{P:Program}{ops:Array Oper}{o:Oper}{a:Act}{w:World}{K:Act->World->Prop}{Q:Exit->Act->World->Prop}{E:Prop}(yc:o.guard=none)(t e:TypeId)(len:Nat)(parts:Array (Nat×Operand))(ho:o.op=.buildSlice t len parts)
  (cells:bW)(ie:TypeInfo)(z:Value)(vs:List (Nat×Value))(he:(parts.map fun(i,x)=>(i,a.eval x)).toList=vs)
  (hu:P.underlying t=some (.slice e))(U1:P.info? e=some ie)(hz:ie.zero=some z)(FW:¬len*ie.size>2^24)(pJ:¬len*ie.size=0)
  (hf:Instr.fill (fun i=>some (i*ie.size,ie.size)) ((Array.range (len*ie.size)).map (z.cells[· %z.cells.size]!)) vs=some cells)
  (h:K (a.put o.dst (.slice (some ⟨w.heap.size,0,none⟩) len len)) (w.alloc (.cells cells e))):if Region.wanted o (yielded ops a.tmps)=true then Oper.wp P o a w K Q else E:=by
 have hw:Region.wanted o (yielded ops a.tmps)=true:=by simp[Region.wanted,yc]
 rw[aB hw];exact wp_buildSlice t e len parts ho cells ie z hu U1 hz FW pJ (by rw[he];exact hf) h
theorem nU{b o:Nat}{p q r:a_}(h:U.rangeAt b o (p++(q++r))):U.rangeAt b (o+p.length) q:=fun j v hj=>by
 have hl:=(List.getElem?_eq_some_iff.1 hj).1;have:=h (p.length+j) v (by rw[List.getElem?_append_right ab,show p.length+j-p.length=j from ab,List.getElem?_append_left hl];exact hj)
 rwa [<-Nat.add_assoc]at this
theorem xY{o:Nat}(h:U.rangeAt T o cs)(hk:o+cs.length<=k):(U.setCell ⟨T,k,none⟩ v).rangeAt T o cs:=bX h T k [v] (Or.inr (Or.inl hk))
section
variable {xw : Option (Nat × ed)} {a U U' : World} {T : Nat} {t : iI}
def YO(o:jI)(ah:fi)(nh ch:Nat)(r:kq)(mr steps:Int)(i T R:Nat)(V:World):Prop:=V.rangeAt T (17+i*45+1) [.int .i64 o.what,.int .i64 o.aF.part,.bool o.aF.cG.aD,.string o.aF.cG.host,.int .i64 o.aF.cG.port,.bool o.aF.o.aD,.string o.aF.o.host,.int .i64 o.aF.o.port,.string o.aF.path,.string o.aF.query,.string o.aF.method,.slice ah nh ch,.bool o.aF.fq,.string o.aF.body,.bool o.proxy,.string o.text,.string o.user,.string o.pass,.string o.bz,.int .i64 o.cert,.bool o.all,.int .i64 o.n]/\V.rangeAt R 0 [.int .i64 r.what,.string r.head,.int .i64 r.cert]/\V.cell? ⟨T,17+i*45+24,none⟩=some (.int .i64 mr)/\V.cell? ⟨T,287,none⟩=some (.int .i64 steps)
theorem fT.YO{B:Nat}{g:Nat->ql}{sv:Value}(h:fT U T B g sv t){i:Nat}(hi:i<6){ah:fi}{nh ch R:Nat}{r:kq}(hh:(g i).o.aF.ef=.slice ah nh ch)(hR:U.heap[R]?=some (.cells (pU r).toArray 46 (0,0))) :
  YO (g i).o ah nh ch r (t.tab i).mr t.steps i T R U:=by
 refine⟨?_,zm (cs:=pU r) hR,h.tab i hi 24 _ rfl,h.steps⟩;have:=nU (p:=[.int .i64 (t.tab i).does]) (q:=(g i).o.cells) (h.tab i hi);rw[U0 hh]at this;exact this
theorem fT.more{B:Nat}{g:Nat->ql}{sv v':Value}{sb:Nat->Nat}{es:List (UB×(jI×List gT))}(h1:fT U T B g sv t)(h2:xh a.heap.size U (oV xw B sb t))(OE:es.map (·.1)=t.ic)(lU:OwnRows a.heap.size 88 28 U sv (es.map Kc))(Bn:∀x∈es,ka a.heap.size U x.2 x.1.op)
  (h4:∀n,n<6->((t.tab n).does≠0->ka a.heap.size U ((g n).o,(g n).hs) (t.tab n).op)/\((t.tab n).does=2\/(t.tab n).does=3->(g n).sp=.pointer (some ⟨sb n,0,none⟩)))(kO:a.heap.size<=T)(cR:Fr aX a U)
  {i:Nat}(hi:i<6)(hd:(t.tab i).does≠0)(r:kq)(hF:Fr (own sv) U U')(cQ:OwnRows a.heap.size 88 28 U' v' (es.map Kc++[Kc (⟨i,(t.tab i).op,r,(t.tab i).mr,t.steps⟩,((g i).o,(g i).hs))])) :
  fT U' T B g sv t/\dz xw a ((U'.setCell ⟨T,288,none⟩ v').setCells T (17+i*45) (mU ib zeroV)) T (iZ t i r)/\(U'.setCell ⟨T,288,none⟩ v').there T (17+i*45) 45/\Fr (one T) U' ((U'.setCell ⟨T,288,none⟩ v').setCells T (17+i*45) (mU ib zeroV))/\gH U ((U'.setCell ⟨T,288,none⟩ v').setCells T (17+i*45) (mU ib zeroV)):=by
 obtain⟨d,hbd,_⟩:=h1.eK;have hk:∀n,own sv n->∃c,U.heap[n]?=some (.cells c 88 (0,0)):=fun n hn=>lU.AE hn;have hT:¬own sv T:=fun e=>by
  obtain⟨c,hc⟩:=hk T e;rw[hbd]at hc;cases hc
 have b1:=h1.fr hF hT;have b2:=h2.far hF (fun n hn=>lU.block n hn) (fun n hn=>by
  obtain⟨c,hc⟩:=hk n hn;exact⟨c,_,hc,uw.1,uw.2,ag⟩)
 have ho:∀ {v:jI×List gT} {o:jx},ka a.heap.size U v o->ka a.heap.size U' v o:=fun q=>q.rows (q.own.fr hF fun b hb hs=>by
  obtain⟨c,hc⟩:=hk b hs;exact q.own.not hc ag hb)
 have b3:qx a.heap.size U' v' (t.ic++[⟨i,(t.tab i).op,r,(t.tab i).mr,t.steps⟩]):=by
  refine⟨es++[(⟨i,(t.tab i).op,r,(t.tab i).mr,t.steps⟩,((g i).o,(g i).hs))],by rw[bI,OE];rfl,by rw[bI];exact cQ,fun x hx=>?_⟩;rcases bO.1 hx with hx|hx
  ·exact ho (Bn x hx)
  ·rcases dh.1 hx with rfl
   exact ho ((h4 i hi).1 hd)
 have q1:=b1.UD v' (t.ic++[⟨i,(t.tab i).op,r,(t.tab i).mr,t.steps⟩]);have q2:=q1.1.UC hi ib zeroV;have hkt:gH U ((U'.setCell ⟨T,288,none⟩ v').setCells T (17+i*45) (mU ib zeroV)):=by
  obtain⟨d',pY,_⟩:=b1.eK;refine((gH.refl U).step hF fun n c e _ hn he q=>?_).tabs pY (q1.2.trans q2.2);obtain⟨c',PS⟩:=hk n q;rw[PS]at hn;cases hn;exact he.2.1 rfl
 refine⟨b1,?_,q1.1.there ab,q1.2.trans q2.2,hkt⟩;have anF:Fr aX a U':=cR.step hF fun k hk e=>by have:=lU.block k e;omega
 obtain⟨c',PS,_⟩:=b1.eK;obtain⟨c2,rI,_⟩:=q1.1.eK;have b2':=(b2.one kO PS qV.1 qV.2 ag q1.2);have b3':=(b3.one PS ag ag q1.2)
 exact k_ (t:={t with ic:=t.ic++[⟨i,(t.tab i).op,r,(t.tab i).mr,t.steps⟩]}) (t':=iZ t i r) q1.1 b2' b3' (fun n hn=>⟨fun pY=>(ho ((h4 n hn).1 pY)).one PS ag q1.2,(h4 n hn).2⟩) kO (anF.step q1.2 fun k hk e=>by have e':k=T:=e;omega) q2 rfl (UF (t:={t with ic:=t.ic++[⟨i,(t.tab i).op,r,(t.tab i).mr,t.steps⟩]}) (t':=iZ t i r) rfl i (fun n hn=>ay hn) (by simp[iZ,ib]) (by simp[iZ,ib])) (fun j hj=>by
   by_cases ei:j=i
   ·subst ei;simp[iZ,ib]
   ·simp only[iZ,ay ei];exact⟨fun pY=>Or.inl ⟨trivial,trivial,trivial,pY⟩,(h4 j hj).2⟩)
theorem Dw(h:dz xw a U T t){i:Nat}(hi:i<6)(r:kq)(hd:(t.tab i).does≠0)(hl:t.ic.length<1000000) :
  aE 53 #[.pointer (some ⟨T,0,none⟩),.int .i64 i,.pointer (some ⟨T,17+i*45,none⟩),.agg #[.int .i64 r.what,.string r.head,.int .i64 r.cert]] U fun e w'=>e=.returned (.tuple #[.agg #[.int .i64 r.what,.string r.head,.int .i64 r.cert],.bool true,.nilIface])/\dz xw a w' T (iZ t i r)/\gH U w':=by
 obtain⟨x2,WL⟩:∃x2,x2=(U.alloc (.cells #[.int .i64 r.what,.string r.head,.int .i64 r.cert] 46)).alloc (.cells #[.int .i64 0,.string ⟨#[]⟩,.int .i64 0] 46):=⟨_,rfl⟩;have dF:Fr aX U x2:=by rw[WL];exact((ae aX U).alloc _).alloc _
 have k7:x2.heap[U.heap.size]?=some (.cells #[.int .i64 r.what,.string r.head,.int .i64 r.cert] 46 (0,0)):=by rw[WL];exact((ae aX _).alloc _).keep (aC _ _) id
 have k8:x2.heap[U.heap.size+1]?=some (.cells #[.int .i64 0,.string ⟨#[]⟩,.int .i64 0] 46 (0,0)):=by
  rw[WL];have:=aC (U.alloc (.cells #[.int .i64 r.what,.string r.head,.int .i64 r.cert] 46)) (.cells #[.int .i64 0,.string ⟨#[]⟩,.int .i64 0] 46);simpa using this
 have hU2:x2.heap.size=U.heap.size+2:=by rw[WL];simp
 have fR:=O (dF.drew);obtain⟨R,hR⟩:∃R,R=U.heap.size:=⟨_,rfl⟩;have hxd:x2.drew.heap.size=R+2:=hU2.trans (by rw[hR]);have h':=h.dx (dF.drew);have k7':x2.drew.heap[R]?=some (.cells #[.int .i64 r.what,.string r.head,.int .i64 r.cert] 46 (0,0)):=by rw[hR];exact k7
 have k8':x2.drew.heap[R+1]?=some (.cells #[.int .i64 0,.string ⟨#[]⟩,.int .i64 0] 46 (0,0)):=by rw[hR];exact k8
 obtain⟨B,g,sv,sb,h1,h2,⟨es,OE,lU,Bn⟩,h4⟩:=h'.ex;have ZC:T<R:=by
  obtain⟨_,_,_,_,q1,_⟩:=h.ex;have:=q1.lt;omega
 have Of:=(h4 i hi).1 hd;obtain⟨ah,ch,hh⟩:=Of.own.form;rw[aj]at hh;have F1:=h1.YO hi hh k7';have aaw:=O (fun U' v' r hF cQ=>fT.more (U':=U') (v':=v') h1 h2 OE lU Bn h4 h'.low h'.fr hi hd r hF cQ);have anH:es.length<1000000:=by rw[<-aj (f:=(·.1)),OE];exact hl
 have im:a.heap.size<=R:=by have:=h.fr.size;omega
 obtain⟨x,hX⟩:∃x,x=Rz i (g i).o ah (g i).hs.length ch r (t.tab i).mr t.steps:=⟨_,rfl⟩;have Yp:=O (GX (n:=i) hh (t.tab i).op r (t.tab i).mr t.steps);have ZR:=O (show∀u∈x,u.oneCell'=true by rw[hX];exact GY _ _ _ _ _ _ _ _);have HXL:=O (show x.length=28 by rw[hX];rfl);obtain⟨YP,YQ,U2⟩:=lU.form;rw[aj]at U2
 have aax:=O (show x2.drew.ownsRow a.heap.size 88 28 (.slice YP es.length YQ) es.length (es.map Kc).flatten by
  have q:=lU.2
  rwa [aj,U2]at q)
 have adp:=O (show∀n c e,x2.drew.heap[n]?=some (.cells c e (0,0))->e≠88->(Value.slice YP es.length YQ).ownBlock≠some n from fun n c e hn he=>by rw[<-U2];exact lU.not hn he);have HES:=O (show∀y∈es.map Kc,y.length=28/\∀u∈y,u.oneCell'=true from lU.1);have HBT:=O (h1.eK);have d288:=h1.st;rw[U2]at d288 aaw;have HR:=O hR;have HRU:=O (show U.heap.size<=R+1 from ab);have HX:=O WL;have TH:=O hX
 have HK7:=O k7';have HK8:=O k8';have HXD:=O hxd;obtain⟨i0,rL,pA,kP,kR⟩:=info_parts GZ;generalize (g i).o=o at *
 generalize (g i).hs=hs at *
 generalize hnh:hs.length=nh at *
 generalize anJ:(t.tab i).mr=mr at *
 generalize anK:t.steps=steps at *
 clear hnh h1 h2 OE lU Bn h4 h' h hd Of hh U2 dF k7 k8 k7' k8' hX WL hR hU2 anJ anK hxd;go_enter func53,ntmps53;go_wp2_with fail
 rw[<-HX.o, <-HR.o];clear HX;unfold Go.Proofs.YtjndhcngnghpiaaGreatDoor.YO at F1
 refine wp_region_held_drew (S:=(fun V=>V.rangeAt T (17+i*45+1) [.int .i64 o.what,.int .i64 o.aF.part,.bool o.aF.cG.aD,.string o.aF.cG.host,.int .i64 o.aF.cG.port,.bool o.aF.o.aD,.string o.aF.o.host,.int .i64 o.aF.o.port,.string o.aF.path,.string o.aF.query,.string o.aF.method,.slice ah nh ch,.bool o.aF.fq,.string o.aF.body,.bool o.proxy,.string o.text,.string o.user,.string o.pass,.string o.bz,.int .i64 o.cert,.bool o.all,.int .i64 o.n]/\V.rangeAt R 0 [.int .i64 r.what,.string r.head,.int .i64 r.cert]/\V.cell? ⟨T,17+i*45+24,none⟩=some (.int .i64 mr)/\V.cell? ⟨T,287,none⟩=some (.int .i64 steps))) af (by exact F1) ?_
 intro xg;refine aP 0 11 rfl ?_;refine aP 1 12 rfl ?_;refine aP 2 13 rfl ?_;refine aP 3 14 rfl ?_;refine aP 5 16 rfl ?_;refine aP 6 17 rfl ?_;refine aP 7 18 rfl ?_;refine aP 8 19 rfl ?_
 refine sR 9 20 rfl (fB bB 33 (.tmp 19) rfl T (17+i*45+1) rfl ([.int .i64 o.what,.int .i64 o.aF.part,.bool o.aF.cG.aD,.string o.aF.cG.host,.int .i64 o.aF.cG.port,.bool o.aF.o.aD,.string o.aF.o.host,.int .i64 o.aF.o.port,.string o.aF.path,.string o.aF.query,.string o.aF.method,.slice ah nh ch,.bool o.aF.fq,.string o.aF.body,.bool o.proxy,.string o.text,.string o.user,.string o.pass,.string o.bz,.int .i64 o.cert,.bool o.all,.int .i64 o.n]) _ (fun w hw=>hw.1) underlying33 rfl af) ?_
 try simp only[Act.put,sA,sB,sC]
 refine sR 10 21 rfl (fB bB 46 (.tmp 7) rfl R 0 rfl ([.int .i64 r.what,.string r.head,.int .i64 r.cert]) _ (fun w hw=>hw.2.1) underlying46 rfl af) ?_
 try simp only[Act.put,sA,sB,sC]
 refine aP 11 22 rfl ?_;refine aP 12 23 rfl ?_;refine aP 13 24 rfl ?_;refine aP 14 25 rfl ?_;refine aP 15 26 rfl ?_;refine aP 16 27 rfl ?_;refine aP 17 28 rfl ?_;refine aP 18 29 rfl ?_
 have hbt:prog.built 88 [(0,.int .i64 i),(1,.agg #[.int .i64 o.what,.int .i64 o.aF.part,.bool o.aF.cG.aD,.string o.aF.cG.host,.int .i64 o.aF.cG.port,.bool o.aF.o.aD,.string o.aF.o.host,.int .i64 o.aF.o.port,.string o.aF.path,.string o.aF.query,.string o.aF.method,.slice ah nh ch,.bool o.aF.fq,.string o.aF.body,.bool o.proxy,.string o.text,.string o.user,.string o.pass,.string o.bz,.int .i64 o.cert,.bool o.all,.int .i64 o.n]),(2,.agg #[.int .i64 r.what,.string r.head,.int .i64 r.cert]),(3,.int .i64 mr),(4,.int .i64 steps)]=some x.toArray:=by rw[TH.o];exact YN i o ah nh ch r mr steps
 refine sR 19 30 rfl (xi rfl 88 _ rfl x.toArray _ (by simp only[eM,cA,du];rfl) hbt) ?_;clear hbt
 try simp only[Act.put,sA,sB,sC]
 have Mu:=O xg;have HD:=O d288;clear d288;refine wpAnyH_ready (rs:=[4,20]) af aS ?_;refine AllReadyH.cons rfl (fun K hK=>?hA) (AllReadyH.cons rfl (fun K hK=>?hB) AllReadyH.nil)
 case' hA =>
  have d288:=HD.o;go_simp;refine hK.out _ _ Mu.o ?_;intro wM;clear hK K wM d288
  try simp only[Act.put,sA,sB,sC]
  refine eE 20 rfl fun K hK=>?_;have yR:Instr.fill (fun i=>some (i*28,28)) ((Array.range (1*28)).map ((Value.agg Dv).cells[· %(Value.agg Dv).cells.size]!)) [(0,.agg x.toArray)]=some x.toArray:=by rw[TH.o];exact M1 i o ah nh ch r mr steps
  refine uH rfl 54 88 1 _ rfl x.toArray i0 (.agg Dv) [(0,.agg x.toArray)] (by simp only[eM,cA,du];rfl) underlying54 rL pA (by rw[kP];decide) (by rw[kP];decide) (by rw[kP];exact yR) ?_;clear yR;obtain⟨x3,wX⟩:∃x3,x3=x2.drew.alloc (.cells x.toArray 88):=⟨_,rfl⟩;have DN:Fr aX x2.drew x3:=by rw[wX];exact(ae aX _).alloc _
  have adq:x3.heap.size=R+3:=by rw[wX];simp[HXD.o]
  have hN3:∀j u,x[j]?=some u->x3.cell? ((⟨R+2,0,none⟩:Addr).add j)=some u:=by
   rw[wX, <-HXD.o];exact ky _ x _
  have ZM:x3.ownsRow a.heap.size 88 28 (.slice YP es.length YQ) es.length (es.map Kc).flatten:=by rw[wX];exact World.ownsRow.alloc aax.o _
  have Ea:(x3).rangeAt T (17+i*45+1) [.int .i64 o.what,.int .i64 o.aF.part,.bool o.aF.cG.aD,.string o.aF.cG.host,.int .i64 o.aF.cG.port,.bool o.aF.o.aD,.string o.aF.o.host,.int .i64 o.aF.o.port,.string o.aF.path,.string o.aF.query,.string o.aF.method,.slice ah nh ch,.bool o.aF.fq,.string o.aF.body,.bool o.proxy,.string o.text,.string o.user,.string o.pass,.string o.bz,.int .i64 o.cert,.bool o.all,.int .i64 o.n]/\(x3).rangeAt R 0 [.int .i64 r.what,.string r.head,.int .i64 r.cert]/\(x3).cell? ⟨T,17+i*45+24,none⟩=some (.int .i64 mr)/\(x3).cell? ⟨T,287,none⟩=some (.int .i64 steps):=(⟨pF Mu.o.1 DN id,pF Mu.o.2.1 DN id,nI Mu.o.2.2.1 DN id,nI Mu.o.2.2.2 DN id⟩)
  have d288:=nI HD.o DN id;rw[<-wX,HXD.o];refine hK.out _ _ Ea ?_;clear hK K wX;intro yb
 case' hB =>
  have yR:Instr.fill (fun i=>some (i*28,28)) ((Array.range (1*28)).map ((Value.agg Dv).cells[· %(Value.agg Dv).cells.size]!)) [(0,.agg x.toArray)]=some x.toArray:=by rw[TH.o];exact M1 i o ah nh ch r mr steps
  refine uH rfl 54 88 1 _ rfl x.toArray i0 (.agg Dv) [(0,.agg x.toArray)] (by simp only[eM,cA,du];rfl) underlying54 rL pA (by rw[kP];decide) (by rw[kP];decide) (by rw[kP];exact yR) ?_;clear yR;obtain⟨x3,wX⟩:∃x3,x3=x2.drew.alloc (.cells x.toArray 88):=⟨_,rfl⟩;have DN:Fr aX x2.drew x3:=by rw[wX];exact(ae aX _).alloc _
  have adq:x3.heap.size=R+3:=by rw[wX];simp[HXD.o]
  have hN3:∀j u,x[j]?=some u->x3.cell? ((⟨R+2,0,none⟩:Addr).add j)=some u:=by
   rw[wX, <-HXD.o];exact ky _ x _
  have ZM:x3.ownsRow a.heap.size 88 28 (.slice YP es.length YQ) es.length (es.map Kc).flatten:=by rw[wX];exact World.ownsRow.alloc aax.o _
  have Ea:(x3).rangeAt T (17+i*45+1) [.int .i64 o.what,.int .i64 o.aF.part,.bool o.aF.cG.aD,.string o.aF.cG.host,.int .i64 o.aF.cG.port,.bool o.aF.o.aD,.string o.aF.o.host,.int .i64 o.aF.o.port,.string o.aF.path,.string o.aF.query,.string o.aF.method,.slice ah nh ch,.bool o.aF.fq,.string o.aF.body,.bool o.proxy,.string o.text,.string o.user,.string o.pass,.string o.bz,.int .i64 o.cert,.bool o.all,.int .i64 o.n]/\(x3).rangeAt R 0 [.int .i64 r.what,.string r.head,.int .i64 r.cert]/\(x3).cell? ⟨T,17+i*45+24,none⟩=some (.int .i64 mr)/\(x3).cell? ⟨T,287,none⟩=some (.int .i64 steps):=(⟨pF Mu.o.1 DN id,pF Mu.o.2.1 DN id,nI Mu.o.2.2.1 DN id,nI Mu.o.2.2.2 DN id⟩)
  have d288:=nI HD.o DN id;rw[<-wX,HXD.o];refine hK.out _ _ Ea ?_;clear hK K wX;intro yb
  try simp only[Act.put,sA,sB,sC]
  refine eE 4 rfl fun K hK=>?_;go_simp;refine hK.out _ _ Ea ?_;intro Ae;clear hK K Ae
 all_goals
  try simp only[Act.put,sA,sB,sC]
  clear xg;refine eE 21 rfl fun K hK=>?_;refine step_append_lies (w:=x3) rfl (.tmp 15) (.tmp 31) 54 rfl a.heap.size 88 i0 _ 28 328 underlying54 rL pA kP kR rfl ab (.slice YP es.length YQ) es.length _ rfl ZM ⟨R+2,0,none⟩ 1 1 x rfl (by rw[HXL.o]) hN3 ZR.o ab ft ab ab (R+3) adq ?_;intro gg cap w4 eV jq dT Jz
  have jN:Fr (own (.slice YP es.length YQ)) x2.drew w4:=fg (DN.mono (fun _ _ h=>absurd h id)) jq (fun _ hk _=>hk);have hm:=aaw.o w4 (.slice (some ⟨gg,0,none⟩) (es.length+1) cap) r jN (by
   refine⟨fun y hy=>?_,?_⟩
   ·rcases bO.1 hy with hy|hy
    ·exact HES.o y hy
    ·rcases dh.1 hy with rfl
     rw[Yp.o, <-TH.o];exact⟨HXL.o,ZR.o⟩
   ·rw[Yp.o, <-TH.o,aM,aj,eh];simpa using eV)
  obtain⟨m1,m2,m3,m4,m5⟩:=hm;have HM5:=O ((eH fR.o).trans m5);have ZE:=O m2;have Rc:=O m3;have HM4:=O m4;have nR:=adp.o R _ _ HK7.o ag;have nT:(Value.slice YP es.length YQ).ownBlock≠some T:=by
   obtain⟨bt,hbt,_⟩:=HBT.o;exact adp.o T _ _ hbt ag
  have n7:=jN.keep HK7.o nR;have n8:=jN.keep HK8.o (adp.o _ _ _ HK8.o ag);have anM:=m1.st;have f288:=m1.free 288
  have Ae:(w4).rangeAt T (17+i*45+1) [.int .i64 o.what,.int .i64 o.aF.part,.bool o.aF.cG.aD,.string o.aF.cG.host,.int .i64 o.aF.cG.port,.bool o.aF.o.aD,.string o.aF.o.host,.int .i64 o.aF.o.port,.string o.aF.path,.string o.aF.query,.string o.aF.method,.slice ah nh ch,.bool o.aF.fq,.string o.aF.body,.bool o.proxy,.string o.text,.string o.user,.string o.pass,.string o.bz,.int .i64 o.cert,.bool o.all,.int .i64 o.n]/\(w4).rangeAt R 0 [.int .i64 r.what,.string r.head,.int .i64 r.cert]/\(w4).cell? ⟨T,17+i*45+24,none⟩=some (.int .i64 mr)/\(w4).cell? ⟨T,287,none⟩=some (.int .i64 steps):=(⟨pF Mu.o.1 jN nT,pF Mu.o.2.1 jN nR,nI Mu.o.2.2.1 jN nT,nI Mu.o.2.2.2 jN nT⟩)
  have XC:=O m1;refine hK.out _ _ Ae ?_;intro hS5;clear hK K m1 m2 m3 m4 m5 eV jq dT Jz ZM hN3 Ea d288
  try simp only[Act.put,sA,sB,sC]
  refine aP 22 33 rfl ?_;refine aP 23 34 rfl ?_;refine eE 24 rfl fun K hK=>?_;go_simp;have hFT:Fr (one T) w4 (w4.setCell ⟨T,288,none⟩ (.slice (some ⟨gg,0,none⟩) (es.length+1) cap)):=(ae (one T) _).setCell (p:=⟨T,288,none⟩) (fun _=>rfl) _;have hRT:R≠T:=ab
  have hS6:(w4.setCell ⟨T,288,none⟩ (.slice (some ⟨gg,0,none⟩) (es.length+1) cap)).rangeAt T (17+i*45+1) [.int .i64 o.what,.int .i64 o.aF.part,.bool o.aF.cG.aD,.string o.aF.cG.host,.int .i64 o.aF.cG.port,.bool o.aF.o.aD,.string o.aF.o.host,.int .i64 o.aF.o.port,.string o.aF.path,.string o.aF.query,.string o.aF.method,.slice ah nh ch,.bool o.aF.fq,.string o.aF.body,.bool o.proxy,.string o.text,.string o.user,.string o.pass,.string o.bz,.int .i64 o.cert,.bool o.all,.int .i64 o.n]/\(w4.setCell ⟨T,288,none⟩ (.slice (some ⟨gg,0,none⟩) (es.length+1) cap)).rangeAt R 0 [.int .i64 r.what,.string r.head,.int .i64 r.cert]/\(w4.setCell ⟨T,288,none⟩ (.slice (some ⟨gg,0,none⟩) (es.length+1) cap)).cell? ⟨T,17+i*45+24,none⟩=some (.int .i64 mr)/\(w4.setCell ⟨T,288,none⟩ (.slice (some ⟨gg,0,none⟩) (es.length+1) cap)).cell? ⟨T,287,none⟩=some (.int .i64 steps):=(⟨xY Ae.1 bH,pF Ae.2.1 hFT (fun e=>hRT e),eS (vs:=[_]) Ae.2.2.1 (Or.inl ab),eS (vs:=[_]) Ae.2.2.2 (Or.inl ab)⟩)
  refine hK.out _ _ hS6 ?_;intro hS7;clear hK K hS7 hS5;refine wpAnyH_done af ?_ _;have p7:=hFT.keep n7 (fun e=>hRT e);have p8:=hFT.keep n8 (fun e=>by have e':R+1=T:=e;omega);have HP7:=O (((HM4.o).keep n7 (fun e=>hRT e)));have HP8:=O (((HM4.o).keep n8 (fun e=>by have e':R+1=T:=e;omega)));clear Ae hS6 n7 n8 anM f288 jN DN adq
  generalize w4.setCell ⟨T,288,none⟩ (.slice (some ⟨gg,0,none⟩) (es.length+1) cap)=W5 at *
  go_wp2_with (first|((with_reducible refine cU 75 ?_);refine ju rfl 75 _ _ rfl T (17+i*45) (mU ib zeroV).toArray rfl rfl Rc.o rfl (Du _ _ rfl rfl) ?_)|((with_reducible refine dt 38 ?_);refine aJ rfl 46 (.tmp 7) rfl R rfl _ #[.int .i64 r.what,.string r.head,.int .i64 r.cert] (0,0) _ HP7.o underlying46 rfl (ba _ rfl) ?_)|((with_reducible refine cU 46 ?_);refine aI rfl 46 (.tmp 8) (.tmp 38) rfl (R+1) #[.int .i64 r.what,.string r.head,.int .i64 r.cert] rfl rfl _ bP HP8.o (ba _ rfl) rfl bS ?_)|fail)
  refine aR (ji bB _ _ (R+1) 46 #[.int .i64 r.what,.string r.head,.int .i64 r.cert] (0,0) _ rfl (aY _ (R+1) _ _ _ _ HP8.o) underlying46 rfl (ba _ rfl)) rfl ?_;exact⟨rfl,dz.far ZE.o ((ae (one (R+1)) _).setRow (fun _=>rfl) _) (fun n hn=>by have e':n=R+1:=hn;omega) (fun n hn=>by cases(show n=R+1 from hn);exact⟨_,_,HP8.o,GV⟩),HM5.o.new ((ae (one (R+1)) _).setRow (fun _=>rfl) _) HRU.o⟩
end
