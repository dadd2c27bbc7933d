/- Lemmas for the law's walk. -/
import Derived.Test.YtjndhcngnghpiaaGreatDoorPn18
set_option maxRecDepth 100000
set_option maxHeartbeats 16000000
set_option linter.unusedSimpArgs false
namespace Go.Proofs.YtjndhcngnghpiaaGreatDoor
open Go.Proofs.Tryz
open Go.RowKit
variable {k g T ch:Nat} {v:Value} {S:dB} {V U:World} {cs:aX} {o:kl} {ah:eQ}
theorem Si:(prog.info? 142).map (fun i=>(i.zero,i.size,i.bytes))=some (some (.agg #[.string ⟨#[]⟩,.string ⟨#[]⟩]),2,32):=af
theorem zS{ops:Array Oper}{rest:List Oper}{o:Oper}{a:Act}{Q:Exit->Act->World->Prop}{w:World}(yE:o.guard=none)(s x:Operand)
  (ho:o.op=.call {callee:=.builtin .append,args:= #[s,x],argTypes:= #[27,27]})(base:Nat)(v:Value)(l:cY)(hs:a.eval s=v)(cQ:OwnRows base 142 2 w v l)
  (vx:Value)(m:cY)(hx:a.eval x=vx)(hm:dV 2 w vx m)(hlen:l.length+m.length<1000000000)(ix:base<=w.heap.size)
  (h:∀v' w',OwnRows base 142 2 w' v' (l++m)->w.grownBy w' v.ownBlock->wpList prog ops Q rest (a.put o.dst v') w'):wpList prog ops Q (o :: rest) a w:=by
 obtain⟨i0,hi,o9,kQ,ld⟩:=info_parts Si;obtain⟨ax,cx,fH⟩:=hm.form;have HM:=hm.1;cases ax with
 |none =>
  obtain⟨Yj,h2⟩:m=[]/\cx=0:=by
   rcases hm.2 with ⟨a',c',hv,hs,hc⟩|⟨bk,o',c,hf,_⟩
   ·rw[fH]at hv;injection hv with e1 e2 e3
    exact⟨hs,e3.trans (hc e1.symm)⟩
   ·rw[fH]at hf;injection hf with e1;cases e1
  subst Yj;have TS:a.eval x=.slice none 0 0:=by rw[hx,fH,h2];rfl
  refine wpList_append_own_none yE s x 27 ho base 142 i0 2 underlying27 hi v l.length l.flatten hs cQ.2 TS ?_;exact h v w (by rw[dR];exact cQ) ⟨rfl,rfl,rfl,ay _,fun _ _ _=>rfl⟩
 |some ad =>
  have zt:m.flatten.length=m.length*2:=gz (fun x hx=>(HM x hx).1);refine wpList_append_own w yE s x 27 ho base 142 i0 (.agg #[.string ⟨#[]⟩,.string ⟨#[]⟩]) 2 32 underlying27 hi o9 kQ ld rfl ag v l.length l.flatten hs cQ.2 ad m.length cx m.flatten (hx.trans fH) zt ?_ ?_ ?_ ?_ ix ?_
  ·intro j u hj;rcases hm.2 with ⟨_,_,_,e,_⟩|⟨bk,o',c,hf,g1,g2,g3,g4⟩
   ·subst e;simp at hj
   ·rw[hf]at fH;cases fH;have hjl:=(List.getElem?_eq_some_iff.1 hj).1;have hd:j/2<m.length:=ab;have hmo:j%2<2:=ab;have om:(m[j/2]).length=2:=(HM _ (bM hd)).1;have e1:=rm (k:=2) (xs:=m) (fun x hx=>(HM x hx).1) (j:=j/2) (List.getElem?_eq_getElem hd) (i:=j%2) (List.getElem?_eq_getElem (by rw[om];exact hmo));rw[Nat.div_add_mod']at e1;rw[e1]at hj;cases hj
    have:=g4 (j/2) _ (List.getElem?_eq_getElem hd) (j%2) _ (List.getElem?_eq_getElem (by rw[om];exact hmo));have ea:(Addr.add ⟨bk,o',none⟩ j)=⟨bk,o'+j,none⟩:=by unfold Addr.add;split<;>simp_all
    rw[ea, <-this]
    congr 2
    omega
  ·intro u hu;obtain⟨y,hy,huy⟩:=fK.1 hu;exact(HM y hy).2 u huy
  ·unfold maxLen;omega
  ·omega
  ·intro v' w' h1 h2 _;refine h v' w' ⟨fun y hy=>?_,by simpa using h1⟩ h2;rcases bQ.1 hy with hy|hy
   ·exact cQ.1 y hy
   ·exact HM y hy
theorem Bc(w:World)(o:jz)(hs:List gY)(hf:gB w o hs) :
  aB 19 #[.agg o.cells.toArray] w fun e w'=>e=.returned (.tuple #[.int .i64 ((eO (o.dS hs)).1:Nat),.bool (eO (o.dS hs)).2])/\Fr aS w w':=by
 obtain⟨ah,ch,gD⟩:=hf.gT;obtain⟨w2,eA⟩:∃w2,w2=w.alloc (.cells o.cells.toArray 33):=⟨_,rfl⟩;have dz:Fr aS w w2:=by rw[eA];exact(ae aS w).alloc _
 have k1:w2.heap[w.heap.size]?=some (.cells o.cells.toArray 33 (0,0)):=by rw[eA];exact aC _ _
 have td:=O (ll o hs w2 (hf.di dz));obtain⟨a0,a1,a2,a3,a4,a5,a6,a7,a8,a9,jA,jB,a12,jx,jC,jd,jK,jL,jM,jU,a20,a21⟩:=eh k1 gD;have mJ:=O k1;have lu:=O gD;have fY:=O dz;rw[eA]at a0 a1 a2 a3 a4 a5 a6 a7 a8 a9 jA jB a12 jx jC jd jK jL jM jU a20 a21;rw[dZ gD]at eA td a0 a1 a2 a3 a4 a5 a6 a7 a8 a9 jA jB a12 jx jC jd jK jL jM jU a20 a21 ⊢;have nD:=O eA;clear eA gD dz k1 hf;go_enter func19,ntmps19
 have u_:=O (aC w (.cells #[.int .i64 o.what,.int .i64 o.aJ.part,.bool o.aJ.cW.aE,.string o.aJ.cW.host,.int .i64 o.aJ.cW.port,.bool o.aJ.o.aE,.string o.aJ.o.host,.int .i64 o.aJ.o.port,.string o.aJ.path,.string o.aJ.query,.string o.aJ.method,.slice ah hs.length ch,.bool o.aJ.fN,.string o.aJ.body,.bool o.proxy,.string o.text,.string o.user,.string o.pass,.string o.bK,.int .i64 o.cert,.bool o.all,.int .i64 o.n] 33))
 go_wp2_with (first|((with_reducible refine dk 4 ?_);refine aI rfl 33 (.tmp 1) rfl w.heap.size rfl _ #[.int .i64 o.what,.int .i64 o.aJ.part,.bool o.aJ.cW.aE,.string o.aJ.cW.host,.int .i64 o.aJ.cW.port,.bool o.aJ.o.aE,.string o.aJ.o.host,.int .i64 o.aJ.o.port,.string o.aJ.path,.string o.aJ.query,.string o.aJ.method,.slice ah hs.length ch,.bool o.aJ.fN,.string o.aJ.body,.bool o.proxy,.string o.text,.string o.user,.string o.pass,.string o.bK,.int .i64 o.cert,.bool o.all,.int .i64 o.n] (0,0) _ u_.o underlying33 rfl af ?_)|fail)
 rw[<-nD.o];refine td.o.mono ?_;rintro e u⟨rfl,hu⟩;clear a0 a1 a2 a3 a4 a5 a6 a7 a8 a9 jA jB a12 jx jC jd jK jL jM jU a20 a21 td;obtain⟨a0,a1,a2,a3,a4,a5,a6,a7,a8,a9,jA,jB,a12,jx,jC,jd,jK,jL,jM,jU,a20,a21⟩:=eh (hu.keep mJ.o id) lu.o;have HU:=O (fY.o.trans hu);clear hu;cases hr:(o.dS hs).right
 ·have HC:=O (show eO (o.dS hs)=(0,false)by unfold eO;rw[hr];rfl);clear hr;go_wp2;go_ret2;rw[HC.o];exact⟨rfl,HU.o⟩
 ·have Wo:=hr;unfold kl.right at Wo;simp only[cF,dF]at Wo;have oq:1<=o.what:=Wo.1;have apH:o.what<=10:=Wo.2.1;clear Wo;have HC:=O (show eO (o.dS hs)=if o.what=1\/o.what=2\/o.what=3\/o.what=8 then(1,true)else if o.what=4 then(10,false)else if o.what=5 then(10,true)else if o.what=6 then(4,false)else if o.what=7 then(4,true)else if o.what=10 then(8,true)else(7,true)by unfold eO;rw[hr];rfl);clear hr
  have hq:o.what=1\/o.what=2\/o.what=3\/o.what=4\/o.what=5\/o.what=6\/o.what=7\/o.what=8\/o.what=9\/o.what=10:=ab;clear oq apH;rcases hq with hq|hq|hq|hq|hq|hq|hq|hq|hq|hq
  ·as_aux_lemma =>
    rw[hq]at a0 HC;have wJ:=O (HC.o.trans (by first|rfl|decide));clear HC;have HQ:=O hq;clear hq;go_wp2;go_ret2;rw[wJ.o];exact⟨rfl,HU.o⟩
  ·as_aux_lemma =>
    rw[hq]at a0 HC;have wJ:=O (HC.o.trans (by first|rfl|decide));clear HC;have HQ:=O hq;clear hq;go_wp2;go_ret2;rw[wJ.o];exact⟨rfl,HU.o⟩
  ·as_aux_lemma =>
    rw[hq]at a0 HC;have wJ:=O (HC.o.trans (by first|rfl|decide));clear HC;have HQ:=O hq;clear hq;go_wp2;go_ret2;rw[wJ.o];exact⟨rfl,HU.o⟩
  ·as_aux_lemma =>
    rw[hq]at a0 HC;have wJ:=O (HC.o.trans (by first|rfl|decide));clear HC;have HQ:=O hq;clear hq;go_wp2;go_ret2;rw[wJ.o];exact⟨rfl,HU.o⟩
  ·as_aux_lemma =>
    rw[hq]at a0 HC;have wJ:=O (HC.o.trans (by first|rfl|decide));clear HC;have HQ:=O hq;clear hq;go_wp2;go_ret2;rw[wJ.o];exact⟨rfl,HU.o⟩
  ·as_aux_lemma =>
    rw[hq]at a0 HC;have wJ:=O (HC.o.trans (by first|rfl|decide));clear HC;have HQ:=O hq;clear hq;go_wp2;go_ret2;rw[wJ.o];exact⟨rfl,HU.o⟩
  ·as_aux_lemma =>
    rw[hq]at a0 HC;have wJ:=O (HC.o.trans (by first|rfl|decide));clear HC;have HQ:=O hq;clear hq;go_wp2;go_ret2;rw[wJ.o];exact⟨rfl,HU.o⟩
  ·as_aux_lemma =>
    rw[hq]at a0 HC;have wJ:=O (HC.o.trans (by first|rfl|decide));clear HC;have HQ:=O hq;clear hq;go_wp2;go_ret2;rw[wJ.o];exact⟨rfl,HU.o⟩
  ·as_aux_lemma =>
    rw[hq]at a0 HC;have wJ:=O (HC.o.trans (by first|rfl|decide));clear HC;have HQ:=O hq;clear hq;go_wp2;go_ret2;rw[wJ.o];exact⟨rfl,HU.o⟩
  ·as_aux_lemma =>
    rw[hq]at a0 HC;have wJ:=O (HC.o.trans (by first|rfl|decide));clear HC;have HQ:=O hq;clear hq;go_wp2;go_ret2;rw[wJ.o];exact⟨rfl,HU.o⟩
theorem rP{P:Program}{ops:Array Oper}{a:Act}{w:World}{K:Act->World->Prop}{Q:Exit->Act->World->Prop}{E:Prop}{op:Oper}(yE:op.guard=none)(ty:TypeId)(x y:Operand)(ho:op.op=.store ty x y)
  (b o:Nat)(cells:bS)(hx:a.eval x=.pointer (some ⟨b,o,none⟩))(hy:a.eval y=.agg cells)
  (ht:w.there b o cells.size)(hi:(P.info? ty).map (·.size)=some cells.size)(h1:cells.all (·.oneCell')=true)
  (h:K (a.put op.dst undef) (w.setCells b o cells.toList)):if Region.wanted op (yielded ops a.tmps)=true then Oper.wp P op a w K Q else E:=by
 have hw:Region.wanted op (yielded ops a.tmps)=true:=by simp[Region.wanted,yE]
 rw[aA hw];exact wp_store_mid ty x y ho b o cells hx hy ht hi h1 h
section
variable {xw : Option (Nat × dN)} {a U U' : World} {T : Nat} {t : im}
def aeU(o:jz)(hs:List gY)(a9:eQ)(c9:Nat)(t:im)(T N:Nat)(V:World):Prop:=V.rangeAt N 0 [.int .i64 o.what,.int .i64 o.aJ.part,.bool o.aJ.cW.aE,.string o.aJ.cW.host,.int .i64 o.aJ.cW.port,.bool o.aJ.o.aE,.string o.aJ.o.host,.int .i64 o.aJ.o.port,.string o.aJ.path,.string o.aJ.query,.string o.aJ.method,.slice a9 hs.length c9,.bool o.aJ.fN,.string o.aJ.body,.bool o.proxy,.string o.text,.string o.user,.string o.pass,.string o.bK,.int .i64 o.cert,.bool o.all,.int .i64 o.n]/\V.cell? ⟨T,287,none⟩=some (.int .i64 (t.steps+1))
theorem dV.fr1{w w':World}{xs:cY}(h:dV k w v xs)(hf:Fr S w w')(hn:xs≠ []->∀b,v.ownBlock=some b->¬S b):dV k w' v xs:=by
 by_cases e:xs=[]
 ·subst e;rcases h.2 with ⟨a,c,e1,_,e3⟩|⟨bk,o,c,e1,h1,h2,h3,h4⟩
  ·exact⟨h.1,Or.inl ⟨a,c,e1,rfl,e3⟩⟩
  ·exact⟨h.1,Or.inr ⟨bk,o,c,e1,h1,h2,cO h3 hf.size,fun j x hx=>by simp at hx⟩⟩
 ·exact h.fr hf (hn e)
theorem BM{N:Nat}{e:TypeId}(h:V.heap[N]?=some (.cells cs.toArray e (0,0))):V.rangeAt N 0 cs:=fun j v hv=>by
 rw[bw];simp only[World.cell?,h];simpa using hv
theorem aaf{x1 W:World}{o:jz}{hs:List gY}{a9:eQ}{c9 i N:Nat}(hi:i<6)(aag:df xw a W T {t with steps:=t.steps+1})(HO:gB x1 o hs)(hNT:N≠T)(hd:(t.tab i).does=0)
  (hk9:W.heap[N]?=some (.cells (jz.cells {o with aJ:={o.aJ with en:=.slice a9 hs.length c9}}).toArray 33 (0,0)))(aah:OwnRows a.heap.size 142 2 W (.slice a9 hs.length c9) (hs.map gY.cells)) :
  aeU o hs a9 c9 t T N W.drew/\W.drew.there T (17+i*45) 45/\aeU o hs a9 c9 t T N (W.drew.setCells T (17+i*45) (mQ {fW with does:=1,op:=o.dS hs,ng:=t.steps+1} ⟨{o with aJ:={o.aJ with en:=.slice a9 hs.length c9}},hs,.pointer none⟩))/\df xw a (W.drew.setCells T (17+i*45) (mQ {fW with does:=1,op:=o.dS hs,ng:=t.steps+1} ⟨{o with aJ:={o.aJ with en:=.slice a9 hs.length c9}},hs,.pointer none⟩)) T {(t.put i {fW with does:=1,op:=o.dS hs,ng:=t.steps+1})with steps:=t.steps+1}/\gN W (W.drew.setCells T (17+i*45) (mQ {fW with does:=1,op:=o.dS hs,ng:=t.steps+1} ⟨{o with aJ:={o.aJ with en:=.slice a9 hs.length c9}},hs,.pointer none⟩)):=by
 have aeV:=aag.di (az (ae aS W));have ajR:=aah.fr (az (ae aS W)) (fun _ _ h=>h);obtain⟨B2,g2,sv2,sb2,h1,h2,h3,h4⟩:=aeV.ex;have c3:=h1.steps;have ajS:W.drew.heap[N]?=some (.cells (jz.cells {o with aJ:={o.aJ with en:=.slice a9 hs.length c9}}).toArray 33 (0,0)):=hk9;have q2:=h1.N7 hi {fW with does:=1,op:=o.dS hs,ng:=t.steps+1} ⟨{o with aJ:={o.aJ with en:=.slice a9 hs.length c9}},hs,.pointer none⟩
 refine⟨?_,h1.there ab,?_,?_,?_⟩
 ·exact⟨BM (cs:=jz.cells {o with aJ:={o.aJ with en:=.slice a9 hs.length c9}}) ajS,c3⟩
 ·exact⟨BM (cs:=jz.cells {o with aJ:={o.aJ with en:=.slice a9 hs.length c9}}) (q2.2.keep ajS (fun e=>hNT e)),q2.1.steps⟩
 ·exact kt (t':={(t.put i {fW with does:=1,op:=o.dS hs,ng:=t.steps+1})with steps:=t.steps+1}) h1 h2 h3 h4 aeV.low aeV.fr q2 rfl (N_ (t':={(t.put i {fW with does:=1,op:=o.dS hs,ng:=t.steps+1})with steps:=t.steps+1}) rfl i (fun n hn=>ar hn) (by simp[im.put]) (by simp[im.put])) (fun j hj=>by
   by_cases ei:j=i
   ·subst ei;simp only[im.put,eb];exact⟨fun _=>Or.inr ⟨{HO with en:=ajR.at},rfl,ajR⟩,fun e=>by simp at e⟩
   ·simp only[im.put,ar ei];exact⟨fun sF=>Or.inl ⟨trivial,trivial,trivial,sF⟩,(h4 j hj).2⟩)
 ·obtain⟨d,hdd,_⟩:=h1.eJ;exact(eH (az (ae aS W))).tabs hdd q2.2
theorem Wm(o:jz)(hs:List gY)(a9:eQ)(c9:Nat)(st:Int):prog.built 75 [(0,.int .i64 1),(1,.agg #[.int .i64 o.what,.int .i64 o.aJ.part,.bool o.aJ.cW.aE,.string o.aJ.cW.host,.int .i64 o.aJ.cW.port,.bool o.aJ.o.aE,.string o.aJ.o.host,.int .i64 o.aJ.o.port,.string o.aJ.path,.string o.aJ.query,.string o.aJ.method,.slice a9 hs.length c9,.bool o.aJ.fN,.string o.aJ.body,.bool o.proxy,.string o.text,.string o.user,.string o.pass,.string o.bK,.int .i64 o.cert,.bool o.all,.int .i64 o.n]),(3,.int .i64 st)]=some (mQ {fW with does:=1,op:=o.dS hs,ng:=st} ⟨{o with aJ:={o.aJ with en:=.slice a9 hs.length c9}},hs,.pointer none⟩).toArray:=af
theorem xA{P:Program}{ops:Array Oper}{S:World->Prop}{o:Oper}{a:Act}(hg:o.guard=none)(t:TypeId)(parts:Array (Nat×Operand))(ho:o.op=.build t parts)(cells:bS)(vs:List (Nat×Value))
  (he:(parts.map fun(i,x)=>(i,a.eval x)).toList=vs)(hf:P.built t vs=some cells):YieldsIf P ops S o (.agg cells) a :=
 Or.inl ⟨by simp[Region.wanted,hg],fun w _=>by
  unfold execOp;simp only[ho,Sem.run_bind,run_build w t _ cells (by rw[he];exact hf),Result.andThen_ok];rfl⟩
theorem Bb(h:df xw a U T t)(n:Int)(o:jz)(hs:List gY){k:Int}(hk:k<1000000)(oZ:fS k t)(ho:gB U o hs)(hnh:hs≠ []->∀b,o.aJ.en.ownBlock=some b->b≠T)(hl:hs.length<100000) :
  aB 12 #[.pointer (some ⟨T,0,none⟩),.int .i64 n,.agg o.cells.toArray] U fun e w'=>e=.returned (xa (yo t n (o.dS hs)).2)/\df xw a w' T (yo t n (o.dS hs)).1/\gN U w':=by
 obtain⟨ah,ch,gD⟩:=ho.gT;obtain⟨x1,mI⟩:∃x1,x1=U.alloc (.cells o.cells.toArray 33):=⟨_,rfl⟩;have dn:Fr aS U x1:=by rw[mI];exact(ae aS U).alloc _
 have k1:x1.heap[U.heap.size]?=some (.cells o.cells.toArray 33 (0,0)):=by rw[mI];exact aC _ _
 have hT:T<U.heap.size:=by
  obtain⟨B,g,sv,sb,h1,_⟩:=h.ex;exact h1.lt
 have h':=h.di dn;have lq:=O dn;have Ey:=ho.di dn;unfold yo;cases hn:yn n
 ·as_aux_lemma =>
   have HC:=O (Iv x1 T hn);have HH:=O h';rw[dZ gD]at mI ⊢;have HX:=O mI;clear hn h oZ h' ho Ey gD dn k1 mI hT;go_enter func12,ntmps12;go_wp2_with fail
   rw[<-HX.o];refine HC.o.mono ?_;rintro e u⟨rfl,rfl⟩;unfold xa;go_wp2;go_ret;exact⟨rfl,HH.o,eH lq.o⟩
 ·obtain⟨i,rfl,hi⟩:=Cu hn;obtain⟨B,g,sv,sb,h1,h2,h3,h4⟩:=h'.ex;have HC:=O (N8 x1 T hi);have c:x1.cell? ⟨T,17+i*45,none⟩=some (.int .i64 (t.tab i).does):=h1.tab i hi 0 _ rfl;have c2:=h1.steps;have fz:=h1.free 287;have e1:((i:Int)).toNat=i:=rfl;rw[aA rfl,e1];by_cases hd:(t.tab i).does=0
  ·as_aux_lemma =>
    rw[aA hd];rw[hd]at c;have s1:=oZ.steps.1;have s2:=oZ.steps.2;have q1:=h1.D8 (t.steps+1);have HTB:=O (show gN U (x1.setCell ⟨T,287,none⟩ (.int .i64 (t.steps+1)))from by
     obtain⟨d,hdd,_⟩:=h1.eJ;exact(eH dn).tabs hdd q1.2)
    have HI:=O (kt (t':={t with steps:=t.steps+1}) h1 h2 h3 h4 h'.low h'.fr q1 rfl (fun j p hp=>hp) (fun j hj=>⟨fun sF=>Or.inl ⟨rfl,rfl,rfl,sF⟩,(h4 j hj).2⟩));have HO:=O Ey;have kN:=q1.2.keep k1 (fun e=>by have e':U.heap.size=T:=e;omega);have HK:=O kN;have y11:(x1.setCell ⟨T,287,none⟩ (.int .i64 (t.steps+1))).cell? ⟨U.heap.size,11,none⟩=some (.slice ah hs.length ch):=by
     simp only[World.cell?,kN,dZ gD];rfl
    have Jc:=O (show oD (x1.setCell ⟨T,287,none⟩ (.int .i64 (t.steps+1))) (.slice ah hs.length ch) hs from by
     have g1:=Ey.en;rw[gD]at g1;exact dV.fr1 g1 q1.2 (fun hne b hb=>hnh (fun e=>hne (by rw[e];rfl)) b (by rw[gD];exact hb)))
    have Jn:=O (show([]:cY).length+(hs.map gY.cells).length<1000000000 from bH);have HAN:=O (show a.heap.size<=U.heap.size from h.fr.size);have uC:=O (show a.heap.size<=(x1.setCell ⟨T,287,none⟩ (.int .i64 (t.steps+1))).heap.size by
     have u1:=h'.fr.size;have u2:=q1.2.size;omega)
    rw[dZ gD]at mI ⊢;have HX:=O mI;have lu:=O gD;clear hn h oZ h1 h2 h3 h4 q1 h' ho Ey dn k1 mI kN gD;go_enter func12,ntmps12;go_wp2_with fail
    rw[<-HX.o];refine HC.o.mono ?_;rintro e u⟨rfl,rfl⟩
    go_wp2_with (at_builtin
                 refine zS rfl _ _ rfl a.heap.size _ [] rfl (dx _ _ _ _) _ (hs.map gY.cells) rfl Jc.o Jn.o uC.o ?_
                 intro v9 w9 uN aai
                 rw[List.nil_append]at uN
                 obtain⟨a9,c9,hv9⟩:=uN.form
                 rw[ai]at hv9
                 subst hv9
                 have Tr:Fr aS _ w9:=fl (ae _ _) aai (fun k hk=>by cases hk)
                 have k9:=Tr.keep HK.o id
                 have z11:w9.cell? ⟨U.heap.size,11,none⟩=some (.slice ah hs.length ch):=by
                   simp only[World.cell?,k9,dZ lu.o]
                   rfl
                 have apG:w9.frozen? ⟨U.heap.size,11,none⟩=false:=by simp[World.frozen?,k9])
    have HI9:=O (HI.o.di Tr);have hk9:(w9.setCell ⟨U.heap.size,11,none⟩ (.slice a9 hs.length c9)).heap[U.heap.size]?=some (.cells (jz.cells {o with aJ:={o.aJ with en:=.slice a9 hs.length c9}}).toArray 33 (0,0)):=by
     rw[b_ k9,dZ lu.o];rfl
    have Ts:Fr (one U.heap.size) w9 (w9.setCell ⟨U.heap.size,11,none⟩ (.slice a9 hs.length c9)):=(ae (one U.heap.size) _).setCell (p:=⟨U.heap.size,11,none⟩) (fun _=>rfl) _;have aag:=O (HI9.o.aside HAN.o k9 ⟨jb,ag⟩ ag ag ag ag Ts);have aah:=O (uN.fr Ts (fun g hg e=>uN.not k9 ag (by rw[hg];exact aq some e)));have HKW:=O ((HTB.o.trans (eH Tr)).new Ts (ay _))
    clear Tr k9 z11 apG Ts uN aai y11 HTB HI9 HI Jc uC HK HX HC c c2 fz;generalize w9.setCell ⟨U.heap.size,11,none⟩ (.slice a9 hs.length c9)=W at *
    obtain⟨N,hN⟩:∃N,N=U.heap.size:=⟨_,rfl⟩;rw[<-hN]at hk9 ⊢;have fe:=aaf (t:=t) hi aag.o HO.o (show N≠T from ab) hd hk9 aah.o;clear hN hk9 aag aah;obtain⟨X,hX⟩:∃X,X=(mQ {fW with does:=1,op:=o.dS hs,ng:=t.steps+1} ⟨{o with aJ:={o.aJ with en:=.slice a9 hs.length c9}},hs,.pointer none⟩):=⟨_,rfl⟩;rw[<-hX]at fe;have Gs:X.toArray.all (·.oneCell')=true:=by rw[hX];exact zR _ _ rfl rfl
    have Uk:X.length=45:=by rw[hX];rfl
    obtain⟨f1,f2,f3,f4,f5⟩:=fe;have XR:=O (HKW.o.trans f5);have HT:=O (show W.drew.there T (17+i*45) X.toArray.size by rw[aZ,Uk];exact f2);have Mu:=O Gs;have HXS:=O (show(prog.info? 75).map (·.size)=some X.toArray.size by rw[aZ,Uk];kernel_rfl);have EP:=O f3;have HR:=O f4;have HXV:=O hX;have F1:=O f1;unfold aeU at f1;clear hX Gs Uk f2 f3 f4 f5 HKW
    refine wp_region_held_drew (S:=(fun V=>V.rangeAt N 0 [.int .i64 o.what,.int .i64 o.aJ.part,.bool o.aJ.cW.aE,.string o.aJ.cW.host,.int .i64 o.aJ.cW.port,.bool o.aJ.o.aE,.string o.aJ.o.host,.int .i64 o.aJ.o.port,.string o.aJ.path,.string o.aJ.query,.string o.aJ.method,.slice a9 hs.length c9,.bool o.aJ.fN,.string o.aJ.body,.bool o.proxy,.string o.text,.string o.user,.string o.pass,.string o.bK,.int .i64 o.cert,.bool o.all,.int .i64 o.n]/\V.cell? ⟨T,287,none⟩=some (.int .i64 (t.steps+1)))) af (by exact f1) ?_
    intro Aj;refine aW 0 37 rfl ?_;refine aW 2 39 rfl ?_;refine aW 3 40 rfl ?_;refine aW 4 41 rfl ?_
    refine v8 1 38 rfl (gR bC 33 (.tmp 5) rfl N 0 rfl ([.int .i64 o.what,.int .i64 o.aJ.part,.bool o.aJ.cW.aE,.string o.aJ.cW.host,.int .i64 o.aJ.cW.port,.bool o.aJ.o.aE,.string o.aJ.o.host,.int .i64 o.aJ.o.port,.string o.aJ.path,.string o.aJ.query,.string o.aJ.method,.slice a9 hs.length c9,.bool o.aJ.fN,.string o.aJ.body,.bool o.proxy,.string o.text,.string o.user,.string o.pass,.string o.bK,.int .i64 o.cert,.bool o.all,.int .i64 o.n]) _ (fun w hw=>hw.1) underlying33 rfl af) ?_
    try simp only[Act.put,sA,sB,sC]
    refine aW 5 42 rfl ?_
    have XS:prog.built 75 [(0,.int .i64 1),(1,.agg #[.int .i64 o.what,.int .i64 o.aJ.part,.bool o.aJ.cW.aE,.string o.aJ.cW.host,.int .i64 o.aJ.cW.port,.bool o.aJ.o.aE,.string o.aJ.o.host,.int .i64 o.aJ.o.port,.string o.aJ.path,.string o.aJ.query,.string o.aJ.method,.slice a9 hs.length c9,.bool o.aJ.fN,.string o.aJ.body,.bool o.proxy,.string o.text,.string o.user,.string o.pass,.string o.bK,.int .i64 o.cert,.bool o.all,.int .i64 o.n]),(3,.int .i64 (t.steps+1))]=some X.toArray:=by rw[HXV.o];exact Wm o hs a9 c9 (t.steps+1)
    refine v8 6 43 rfl (xA rfl 75 _ rfl X.toArray _ (by simp only[eC,cD,dp];rfl) XS) ?_;clear XS
    try simp only[Act.put,sA,sB,sC]
    refine aW 7 44 rfl ?_;refine eT 8 rfl fun K hK=>?_;refine rP rfl 75 (.tmp 44) (.tmp 43) rfl T (17+i*45) X.toArray rfl rfl HT.o HXS.o Mu.o ?_;refine hK.out _ _ EP.o ?_;intro yl;clear hK Aj yl K;refine wpAnyH_done af ?_ _;go_wp2;go_ret;exact⟨rfl,HR.o,XR.o⟩
  ·as_aux_lemma =>
    rw[ar hd];have hd0:¬((t.tab i).does:Int)=0:=ab;have HH:=O h';rw[dZ gD]at mI ⊢;have HX:=O mI;clear hn h oZ h1 h2 h3 h4 h' ho Ey gD dn k1 mI hT;go_enter func12,ntmps12;go_wp2_with fail
    rw[<-HX.o];refine HC.o.mono ?_;rintro e u⟨rfl,rfl⟩;go_wp2;go_ret;exact⟨rfl,HH.o,eH lq.o⟩
end
theorem aeW(U:World)(T o:Nat){v:Int}(hc:U.cell? ⟨T,o,none⟩=some (.int .i64 v))(hf:U.frozen? ⟨T,o,none⟩=false)(h0:0<=v)(h1:v<1000000) :
  aB 55 #[.pointer (some ⟨T,o,none⟩)] U fun e w'=>e=.returned (.tuple #[])/\w'=U.setCell ⟨T,o,none⟩ (.int .i64 (v+1)):=by
 go_enter func55,ntmps55;go_wp2;go_end0;exact⟨rfl,rfl⟩
def On(e:TypeId):Prop:=(eY e/\e≠97)/\e≠142/\e≠88/\e≠78/\e≠9
theorem aaj:On 3:=by unfold On eY;decide
theorem Wn:On 109:=by unfold On eY;decide
theorem ID:On 46:=by unfold On eY;decide
section
variable {xw : Option (Nat × dN)} {base : Nat} {a U U' : World} {T : Nat} {t : im}
theorem xz.far{ws:Nat->Option (Nat×dN)}(h:xz base U ws)(hf:Fr S U U')(ou:∀n,S n->base<=n)(hk:∀n,S n->∃c e,U.heap[n]?=some (.cells c e (0,0))/\eY e/\e≠97/\e≠9):xz base U' ws:=by
 obtain⟨pv,h1,h2⟩:=h;refine⟨pv,fun i B x hi=>(h1 i B x hi).fr hf ?_ (fun k YY e=>?_),h2⟩
 ·intro k hs _;obtain⟨c',e',q1,q2⟩:=hk k hs;exact⟨ou k hs,fun c f e=>by rw[q1]at e;cases e;exact q2.2.2 rfl⟩
 ·obtain⟨c',e',q1,q2⟩:=hk k e;exact(h1 i B x hi).vX q1 q2.1 q2.2.1 YY
theorem df.far(h:df xw a U T t)(hf:Fr S U U')(ou:∀n,S n->a.heap.size<=n)(hk:∀n,S n->∃c e,U.heap[n]?=some (.cells c e (0,0))/\On e):df xw a U' T t:=by
 obtain⟨B,g,sv,sb,g1,g2,g3,g4⟩:=h.ex;obtain⟨d,hd,_⟩:=g1.eJ;have hT:¬S T:=fun e=>by
  obtain⟨c,e',h1,h2⟩:=hk T e;rw[hd]at h1;cases h1;exact h2.2.2.2.1 rfl
 have ho:∀ {v:jz×List gY} {o:kl},j_ a.heap.size U v o->j_ a.heap.size U' v o:=fun q=>q.rows (q.own.fr hf fun b hb hs=>by
  obtain⟨c,e',h1,h2⟩:=hk b hs;exact q.own.not h1 h2.2.1 hb)
 refine⟨⟨B,g,sv,sb,g1.fr hf hT,g2.far hf ou (fun n hn=>?_),?_,fun m hm=>⟨fun hd=>ho ((g4 m hm).1 hd),(g4 m hm).2⟩⟩,h.low,h.fr.step hf fun k hk e=>?_⟩
 ·obtain⟨c,e,h1,h2⟩:=hk n hn;exact⟨c,e,h1,h2.1.1,h2.1.2,h2.2.2.2.2⟩
 ·obtain⟨es,e1,e2,e3⟩:=g3;exact⟨es,e1,e2.fr hf fun b hb hs=>by
   obtain⟨c,e',h1,h2⟩:=hk b hs;exact e2.not h1 h2.2.2.1 hb,fun x hx=>ho (e3 x hx)⟩
 ·have:=ou k e;omega
end
def vd(n:Int):aX:=[.int .i64 n]
theorem LO:(prog.info? 3).map (fun i=>(i.zero,i.size,i.bytes))=some (some (.int .i64 0),1,8):=af
def IE(base:Nat)(U:World)(V:Nat)(v:Value)(l:List Int)(e:Ending)(w':World):Prop :=
 e=.returned (.tuple #[])/\∃v',w'.heap[V]?=some (.cells #[v'] 109 (0,0))/\OwnRows base 3 1 w' v' (l.map vd)/\Fr (fun k=>k=V\/own v k) U w'
theorem Qa{base:Nat}{W:World}{V cap:Nat}{l:List Int}{x:Int}(hg:W.ownsRow base 3 1 (.slice (some ⟨g,0,none⟩) (l.length+1) cap) (l.length+1) ((l.map vd).flatten++[.int .i64 x]))(hV:W.heap[V]?=some (.cells #[v] 109 (0,0)))(hF:Fr (own v) U W) :
  IE base U V v (l++[x]) (.returned (.tuple #[])) (W.setCell ⟨V,0,none⟩ (.slice (some ⟨g,0,none⟩) (l.length+1) cap)):=by
 have ho:OwnRows base 3 1 W (.slice (some ⟨g,0,none⟩) (l.length+1) cap) ((l++[x]).map vd):=by
  refine⟨fun y hy=>?_,?_⟩
  ·obtain⟨n,_,rfl⟩:=bZ.1 hy;exact⟨rfl,fun u hu=>by rcases cZ.1 hu with rfl;rfl⟩
  ·have e:((l++[x]).map vd).length=l.length+1:=aR;have e2:((l++[x]).map vd).flatten=(l.map vd).flatten++[.int .i64 x]:=by simp[vd]
   rw[e,e2];exact hg
 have hs:Fr (one V) W (W.setCell ⟨V,0,none⟩ (.slice (some ⟨g,0,none⟩) (l.length+1) cap)):=(ae (one V) W).setCell (p:=⟨V,0,none⟩) (fun _=>rfl) _;refine⟨rfl,_,b_ hV 0 _,ho.fr hs fun b hb e=>?_,((hF.mono fun _ _ h=>Or.inr h).step hs fun k hk e=>Or.inl e)⟩;exact ho.not hV ag (by rw[hb];exact aq some e)
section
variable {base : Nat} {U : World} {T o V : Nat} {v : Value} {l : List Int} {x : Int}
theorem aeY(hV:U.heap[V]?=some (.cells #[v] 109 (0,0)))(hx:U.cell? ⟨T,o,none⟩=some (.int .i64 x))(cQ:OwnRows base 3 1 U v (l.map vd))(hb:base<=U.heap.size)(hl:l.length<1000) :
  aB 50 #[.pointer (some ⟨T,o,none⟩),.pointer (some ⟨V,0,none⟩)] U (IE base U V v (l++[x])):=by
 obtain⟨i0,qp,o9,kQ,ld⟩:=info_parts LO;obtain⟨av,cv,hv⟩:=cQ.form;rw[ai]at hv;subst hv;have d1:U.cell? ⟨V,0,none⟩=some (.slice av l.length cv):=by simp[World.cell?,hV]
 have e1:U.frozen? ⟨V,0,none⟩=false:=by simp[World.frozen?,hV]
 have hVl:=bj hV;have hne:(Value.slice av l.length cv).ownBlock≠some V:=cQ.not hV ag;have HV:=O hV;have HO:=O (show U.ownsRow base 3 1 (.slice av l.length cv) l.length (l.map vd).flatten by
  have h:=cQ.2
  rwa [ai]at h)
 clear hV cQ;go_enter func50,ntmps50
 go_region_law ((with_reducible refine mL ⟨some 8,_,_,_,_,_⟩ ?_)
                refine step_append_lies _ bC _ _ _ bC base 3 i0 _ 1 8 underlying109 qp o9 kQ ld rfl ab (.slice av l.length cv) l.length _ bC (by have Jj:=HO.o;repeat(first|exact Jj|apply World.ownsRow.alloc|apply World.ownsRow.drew)) ⟨U.heap.size,0,none⟩ 1 1 [.int .i64 x] bC bC (kF U [.int .i64 x] _) (by intro u hu;rcases cZ.1 hu with rfl;rfl) ab ft ab bH (U.heap.size+1) aR ?_
                intro gg cap w4 eZ js dP KG
                have jO:Fr (own (.slice av l.length cv)) U w4:=fl (by repeat(first|exact ae _ _|apply az|apply bz)) js (fun _ hk _=>hk)
                have b4:=jO.keep HV.o (fun e=>hne e)
                have k4:w4.cell? ⟨V,0,none⟩=some (.slice av l.length cv):=by simp[World.cell?,b4]
                have e4:w4.frozen? ⟨V,0,none⟩=false:=by simp[World.frozen?,b4])
 all_goals
  go_end0;exact Qa eZ b4 jO
theorem aeZ(hV:U.heap[V]?=some (.cells #[v] 109 (0,0)))(hx:U.cell? ⟨T,o,none⟩=some (.int .i64 x))(cQ:OwnRows base 3 1 U v (l.map vd))(hb:base<=U.heap.size)(hl:l.length<1000) :
  aB 51 #[.pointer (some ⟨T,o,none⟩),.pointer (some ⟨V,0,none⟩)] U (IE base U V v (l++[x])):=by
 obtain⟨i0,qp,o9,kQ,ld⟩:=info_parts LO;obtain⟨av,cv,hv⟩:=cQ.form;rw[ai]at hv;subst hv;have d1:U.cell? ⟨V,0,none⟩=some (.slice av l.length cv):=by simp[World.cell?,hV]
 have e1:U.frozen? ⟨V,0,none⟩=false:=by simp[World.frozen?,hV]
 have hVl:=bj hV;have hne:(Value.slice av l.length cv).ownBlock≠some V:=cQ.not hV ag;have HV:=O hV;have HO:=O (show U.ownsRow base 3 1 (.slice av l.length cv) l.length (l.map vd).flatten by
  have h:=cQ.2
  rwa [ai]at h)
 clear hV cQ;go_enter func51,ntmps51
 go_region_law ((with_reducible refine mL ⟨some 8,_,_,_,_,_⟩ ?_)
                refine step_append_lies _ bC _ _ _ bC base 3 i0 _ 1 8 underlying109 qp o9 kQ ld rfl ab (.slice av l.length cv) l.length _ bC (by have Jj:=HO.o;repeat(first|exact Jj|apply World.ownsRow.alloc|apply World.ownsRow.drew)) ⟨U.heap.size,0,none⟩ 1 1 [.int .i64 x] bC bC (kF U [.int .i64 x] _) (by intro u hu;rcases cZ.1 hu with rfl;rfl) ab ft ab bH (U.heap.size+1) aR ?_
                intro gg cap w4 eZ js dP KG
                have jO:Fr (own (.slice av l.length cv)) U w4:=fl (by repeat(first|exact ae _ _|apply az|apply bz)) js (fun _ hk _=>hk)
                have b4:=jO.keep HV.o (fun e=>hne e)
                have k4:w4.cell? ⟨V,0,none⟩=some (.slice av l.length cv):=by simp[World.cell?,b4]
                have e4:w4.frozen? ⟨V,0,none⟩=false:=by simp[World.frozen?,b4])
 all_goals
  go_end0;exact Qa eZ b4 jO
end
def yt(o:kl)(k:Nat):List (Nat×Nat):=([0,1,2,3].take k).filterMap fun i=>if(eO o).1.testBit i then some (if i=3 then 0 else o.part.toNat,i)else none
theorem zT(hk:k<4)(hb:(eO o).1.testBit k=false):yt o (k+1)=yt o k:=by
 rcases(show k=0\/k=1\/k=2\/k=3 from ab)with rfl|rfl|rfl|rfl<;>simp[yt,List.filterMap_cons,hb]
theorem LP(hk:k<4)(hb:(eO o).1.testBit k=true):yt o (k+1)=yt o k++[(if k=3 then 0 else o.part.toNat,k)]:=by
 rcases(show k=0\/k=1\/k=2\/k=3 from ab)with rfl|rfl|rfl|rfl
 ·simp[yt,hb]
 ·have e:∀f:Nat->Option (Nat×Nat),([0,1]:List Nat).filterMap f=[0].filterMap f++[1].filterMap f:=fun f=>iX (l:=[0]) (l':=[1]);simp only[yt,List.take];rw[e];simp[hb]
 ·have e:∀f:Nat->Option (Nat×Nat),([0,1,2]:List Nat).filterMap f=[0,1].filterMap f++[2].filterMap f:=fun f=>iX (l:=[0,1]) (l':=[2]);simp only[yt,List.take];rw[e];simp[hb]
 ·have e:∀f:Nat->Option (Nat×Nat),([0,1,2,3]:List Nat).filterMap f=[0,1,2].filterMap f++[3].filterMap f:=fun f=>iX (l:=[0,1,2]) (l':=[3]);simp only[yt,List.take];rw[e];simp[hb]
theorem Sj(o:kl)(k:Nat):∃r,mT o=yt o k++r:=⟨([0,1,2,3].drop k).filterMap fun i=>if(eO o).1.testBit i then some (if i=3 then 0 else o.part.toNat,i)else none,by
 unfold yt mT;rw[<-iX,fL]⟩
theorem Wp(hk:k<4)(hb:(eO o).1.testBit k=true):∃r,mT o=yt o k++(if k=3 then 0 else o.part.toNat,k) :: r:=by
 obtain⟨r,hr⟩:=Sj o (k+1);exact⟨r,by rw[hr,LP hk hb,cK,List.singleton_append]⟩
theorem Oo(o:kl):(eO o).1=0\/(((eO o).1=1\/(eO o).1=4\/(eO o).1=7\/(eO o).1=8\/(eO o).1=10)/\o.right=true):=by
 cases hr:o.right
 ·exact Or.inl (by rw[Gu hr])
 ·unfold eO;rw[hr];simp only[eb]
  repeat' split
  all_goals simp
def Wq(R:List (Nat×Nat)->World->Prop)(o:kl)(bx:Nat)(X:bS)(i:Value)(wr:World):Prop :=
 ∃k:Nat,k<=4/\i=.int .i64 k/\R (yt o k) wr/\wr.heap[bx]?=some (.cells X 33 (0,0))
def uG(R:List (Nat×Nat)->World->Prop)(o:kl)(T g:Nat)(cap:bS):Prop :=
 ∀d c r,mT o=d++c :: r->∀V:World,R d V->aB g (#[.pointer (some ⟨T,1+c.1*4+c.2,none⟩)]++cap) V fun e w'=>e=.returned (.tuple #[])/\R (d++[c]) w'/\∀(n:Nat) (k:bS),V.heap[n]?=some (.cells k 33 (0,0))->w'.heap[n]?=some (.cells k 33 (0,0))
theorem Wr{R:List (Nat×Nat)->World->Prop}{cap:bS}{bx:Nat}{X:bS}(jq:uG R o T g cap)(hk:k<4)(hb:(eO o).1.testBit k=true){p:Nat}(hp:(if k=3 then 0 else o.part.toNat)=p)(hR:R (yt o k) V)(p_:V.heap[bx]?=some (.cells X 33 (0,0))) :
  aB g (#[.pointer (some ⟨T,1+p*4+k,none⟩)]++cap) V fun e w'=>e=.returned (.tuple #[])/\R (yt o (k+1)) w'/\w'.heap[bx]?=some (.cells X 33 (0,0)):=by
 obtain⟨r,hr⟩:=Wp hk hb;rw[hp]at hr;refine(jq _ _ _ hr V hR).mono ?_;rintro e w'⟨h1,h2,h3⟩;rw[LP hk hb,hp];exact⟨h1,h2,h3 _ _ p_⟩
theorem Sk(U:World)(T:Nat)(o:jz)(hs:List gY)(g:Nat)(cap:bS)(_eg:∀args w,(callFunc g args).run prog w=.ok (.enter g args) w)(R:List (Nat×Nat)->World->Prop)(h0:R [] U)(cL:∀d V V',R d V->Fr aS V V'->R d V')(jq:uG R (o.dS hs) T g cap)(ho:gB U o hs)(hc:(eO (o.dS hs)).1=0) :
  aB 49 #[.pointer (some ⟨T,0,none⟩),.agg o.cells.toArray,.func (.func g) #[] cap] U fun e w'=>e=.returned (.tuple #[])/\R (mT (o.dS hs)) w':=by
 obtain⟨ah,ch,gD⟩:=ho.gT;obtain⟨x1,mI⟩:∃x1,x1=U.alloc (.cells o.cells.toArray 33):=⟨_,rfl⟩;have dn:Fr aS U x1:=by rw[mI];exact(ae aS U).alloc _
 have HK:=O (show x1.heap[U.heap.size]?=some (.cells o.cells.toArray 33 (0,0))by rw[mI];exact aC _ _);have HC:=O (Bc x1 o hs (ho.di dn));have HR1:=O (cL _ _ _ h0 dn);have l_:=O jq;have sX:=O cL;rw[hc]at HC;have wY:=O hc;rw[dZ gD]at mI HK HC ⊢;have HX:=O mI;have lu:=O gD;clear gD dn mI jq cL h0 ho hc;go_enter func49,ntmps49
 have u_:=O (aC U (.cells #[.int .i64 o.what,.int .i64 o.aJ.part,.bool o.aJ.cW.aE,.string o.aJ.cW.host,.int .i64 o.aJ.cW.port,.bool o.aJ.o.aE,.string o.aJ.o.host,.int .i64 o.aJ.o.port,.string o.aJ.path,.string o.aJ.query,.string o.aJ.method,.slice ah hs.length ch,.bool o.aJ.fN,.string o.aJ.body,.bool o.proxy,.string o.text,.string o.user,.string o.pass,.string o.bK,.int .i64 o.cert,.bool o.all,.int .i64 o.n] 33))
 go_wp2_with (first|((with_reducible refine dk 11 ?_);refine aI rfl 33 (.tmp 4) rfl U.heap.size rfl _ #[.int .i64 o.what,.int .i64 o.aJ.part,.bool o.aJ.cW.aE,.string o.aJ.cW.host,.int .i64 o.aJ.cW.port,.bool o.aJ.o.aE,.string o.aJ.o.host,.int .i64 o.aJ.o.port,.string o.aJ.path,.string o.aJ.query,.string o.aJ.method,.slice ah hs.length ch,.bool o.aJ.fN,.string o.aJ.body,.bool o.proxy,.string o.text,.string o.user,.string o.pass,.string o.bK,.int .i64 o.cert,.bool o.all,.int .i64 o.n] (0,0) _ u_.o underlying33 rfl af ?_)|fail)
 rw[<-HX.o];refine HC.o.mono ?_;rintro e u⟨rfl,hu⟩;have MQ:=O (sX.o _ _ _ HR1.o hu);have qG:=O (hu.keep HK.o id);clear hu HR1 HK HC HX u_;generalize U.heap.size=bx at *
 go_wp2
 go_loopw[15] (Wq R (o.dS hs) bx #[.int .i64 o.what,.int .i64 o.aJ.part,.bool o.aJ.cW.aE,.string o.aJ.cW.host,.int .i64 o.aJ.cW.port,.bool o.aJ.o.aE,.string o.aJ.o.host,.int .i64 o.aJ.o.port,.string o.aJ.path,.string o.aJ.query,.string o.aJ.method,.slice ah hs.length ch,.bool o.aJ.fN,.string o.aJ.body,.bool o.proxy,.string o.text,.string o.user,.string o.pass,.string o.bK,.int .i64 o.cert,.bool o.all,.int .i64 o.n]) (fun i _=>4-(intOf i).toNat)
 case atStart=>exact⟨0,aQ _,rfl,MQ.o,qG.o⟩
 case round =>
  obtain⟨k,hk,rfl,hR,p_⟩:=hrel;clear MQ qG;have HR:=O hR;have HB:=O p_;clear hR p_;rcases(show k=0\/k=1\/k=2\/k=3\/k=4 from ab)with rfl|rfl|rfl|rfl|rfl
  ·have HN:=O (zT (o:=o.dS hs) (k:=0) ag (by rw[wY.o];decide));go_wp2;go_roundw
   case rel=>exact⟨1,ab,bg,by rw[HN.o];exact HR.o,HB.o⟩
   case measure=>simp[intOf]
  ·have HN:=O (zT (o:=o.dS hs) (k:=1) ag (by rw[wY.o];decide));go_wp2;go_roundw
   case rel=>exact⟨2,ab,bg,by rw[HN.o];exact HR.o,HB.o⟩
   case measure=>simp[intOf]
  ·have HN:=O (zT (o:=o.dS hs) (k:=2) ag (by rw[wY.o];decide));go_wp2;go_roundw
   case rel=>exact⟨3,ab,bg,by rw[HN.o];exact HR.o,HB.o⟩
   case measure=>simp[intOf]
  ·have HN:=O (zT (o:=o.dS hs) (k:=3) ag (by rw[wY.o];decide));go_wp2;go_roundw
   case rel=>exact⟨4,ab,bg,by rw[HN.o];exact HR.o,HB.o⟩
   case measure=>simp[intOf]
  ·go_wp2;go_end0;exact⟨rfl,HR.o⟩
theorem Oq(U:World)(T:Nat)(o:jz)(hs:List gY)(g:Nat)(cap:bS)(eg:∀args w,(callFunc g args).run prog w=.ok (.enter g args) w)(R:List (Nat×Nat)->World->Prop)(h0:R [] U)(cL:∀d V V',R d V->Fr aS V V'->R d V')(jq:uG R (o.dS hs) T g cap)(ho:gB U o hs)(hc:(eO (o.dS hs)).1=1\/(eO (o.dS hs)).1=4\/(eO (o.dS hs)).1=7\/(eO (o.dS hs)).1=8\/(eO (o.dS hs)).1=10)(hr:(o.dS hs).right=true) :
  aB 49 #[.pointer (some ⟨T,0,none⟩),.agg o.cells.toArray,.func (.func g) #[] cap] U fun e w'=>e=.returned (.tuple #[])/\R (mT (o.dS hs)) w':=by
 rcases hc with hc|hc|hc|hc|hc
 all_goals
  obtain⟨ah,ch,gD⟩:=ho.gT;obtain⟨x1,mI⟩:∃x1,x1=U.alloc (.cells o.cells.toArray 33):=⟨_,rfl⟩;have dn:Fr aS U x1:=by rw[mI];exact(ae aS U).alloc _
  have HK:=O (show x1.heap[U.heap.size]?=some (.cells o.cells.toArray 33 (0,0))by rw[mI];exact aC _ _);have HC:=O (Bc x1 o hs (ho.di dn));have HR1:=O (cL _ _ _ h0 dn);have l_:=O jq;have sX:=O cL;rw[hc]at HC;have wY:=O hc;obtain⟨p0,p4⟩:=ks hr;obtain⟨p,hp⟩:∃p:Nat,o.aJ.part=(p:Int):=⟨o.aJ.part.toNat,by have:(o.dS hs).part=o.aJ.part:=rfl;omega⟩;have hp4:p<4:=by have:(o.dS hs).part=o.aJ.part:=rfl;omega
  have HP:=O hp;have HPT:=O (show(o.dS hs).part.toNat=p by have:(o.dS hs).part=o.aJ.part:=rfl;omega);have q1:(p:Int)<4:=ab;have q2:(0:Int)<=(p:Int):=ab;have q3:¬(p:Int)<0:=ab;have q4:¬(4:Int)<=(p:Int):=ab;rw[dZ gD]at mI HK HC ⊢;have HX:=O mI;have lu:=O gD;clear gD dn mI jq cL h0 ho hc hr p0 p4 hp;go_enter func49,ntmps49
  have u_:=O (aC U (.cells #[.int .i64 o.what,.int .i64 o.aJ.part,.bool o.aJ.cW.aE,.string o.aJ.cW.host,.int .i64 o.aJ.cW.port,.bool o.aJ.o.aE,.string o.aJ.o.host,.int .i64 o.aJ.o.port,.string o.aJ.path,.string o.aJ.query,.string o.aJ.method,.slice ah hs.length ch,.bool o.aJ.fN,.string o.aJ.body,.bool o.proxy,.string o.text,.string o.user,.string o.pass,.string o.bK,.int .i64 o.cert,.bool o.all,.int .i64 o.n] 33))
  go_wp2_with (first|((with_reducible refine dk 11 ?_);refine aI rfl 33 (.tmp 4) rfl U.heap.size rfl _ #[.int .i64 o.what,.int .i64 o.aJ.part,.bool o.aJ.cW.aE,.string o.aJ.cW.host,.int .i64 o.aJ.cW.port,.bool o.aJ.o.aE,.string o.aJ.o.host,.int .i64 o.aJ.o.port,.string o.aJ.path,.string o.aJ.query,.string o.aJ.method,.slice ah hs.length ch,.bool o.aJ.fN,.string o.aJ.body,.bool o.proxy,.string o.text,.string o.user,.string o.pass,.string o.bK,.int .i64 o.cert,.bool o.all,.int .i64 o.n] (0,0) _ u_.o underlying33 rfl af ?_)|fail)
  rw[<-HX.o];refine HC.o.mono ?_;rintro e u⟨rfl,hu⟩;have MQ:=O (sX.o _ _ _ HR1.o hu);have qG:=O (hu.keep HK.o id);clear hu HR1 HK HC HX u_;generalize U.heap.size=bx at *
  go_wp2
  go_loopw[15] (Wq R (o.dS hs) bx #[.int .i64 o.what,.int .i64 o.aJ.part,.bool o.aJ.cW.aE,.string o.aJ.cW.host,.int .i64 o.aJ.cW.port,.bool o.aJ.o.aE,.string o.aJ.o.host,.int .i64 o.aJ.o.port,.string o.aJ.path,.string o.aJ.query,.string o.aJ.method,.slice ah hs.length ch,.bool o.aJ.fN,.string o.aJ.body,.bool o.proxy,.string o.text,.string o.user,.string o.pass,.string o.bK,.int .i64 o.cert,.bool o.all,.int .i64 o.n]) (fun i _=>4-(intOf i).toNat)
  case atStart=>exact⟨0,aQ _,rfl,MQ.o,qG.o⟩
  case round =>
   obtain⟨k,hk,rfl,hR,p_⟩:=hrel;clear MQ qG;have HR:=O hR;have HB:=O p_;clear hR p_;have c1:wr.cell? ⟨bx,1,none⟩=some (.int .i64 p):=by simp[World.cell?,HB.o,HP.o]
   by_cases Kd:k<4
   ·cases hb:(eO (o.dS hs)).1.testBit k
    ·have HN:=O (zT Kd hb);rw[wY.o]at hb;rcases(show k=0\/k=1\/k=2\/k=3 from ab)with rfl|rfl|rfl|rfl
     all_goals first
      |exact absurd hb ag
      |(clear hb
        go_wp2
        go_roundw
        case rel=>first|exact⟨1,ab,bg,by rw[HN.o];exact HR.o,HB.o⟩|exact⟨2,ab,bg,by rw[HN.o];exact HR.o,HB.o⟩|exact⟨3,ab,bg,by rw[HN.o];exact HR.o,HB.o⟩|exact⟨4,ab,bg,by rw[HN.o];exact HR.o,HB.o⟩
        case measure=>simp[intOf])
    ·have hq:∃q:Nat,q=(if k=3 then 0 else(o.dS hs).part.toNat):=⟨_,rfl⟩;obtain⟨q,hq⟩:=hq;have ajU:=O (Wr (p:=q) l_.o Kd hb hq.symm HR.o HB.o);rw[HPT.o]at hq;rw[wY.o]at hb;rcases(show k=0\/k=1\/k=2\/k=3 from ab)with rfl|rfl|rfl|rfl
     all_goals first
      |exact absurd hb ag
      |(clear hb HR HB
        first|rw[ar ag]at hq|rw[aA rfl]at hq
        subst hq
        go_wp2_with fail
        refine ajU.o.mono ?_
        rintro e w1⟨rfl,g1,g2⟩
        go_wp2
        go_roundw
        case rel=>first|exact⟨1,ab,bg,g1,g2⟩|exact⟨2,ab,bg,g1,g2⟩|exact⟨3,ab,bg,g1,g2⟩|exact⟨4,ab,bg,g1,g2⟩
        case measure=>simp[intOf])
   ·obtain rfl:k=4:=ab;go_wp2;go_end0;exact⟨rfl,HR.o⟩
theorem v_(U:World)(T:Nat)(o:jz)(hs:List gY)(g:Nat)(cap:bS)(eg:∀args w,(callFunc g args).run prog w=.ok (.enter g args) w)(R:List (Nat×Nat)->World->Prop)(h0:R [] U)(cL:∀d V V',R d V->Fr aS V V'->R d V')(jq:uG R (o.dS hs) T g cap)(ho:gB U o hs) :
  aB 49 #[.pointer (some ⟨T,0,none⟩),.agg o.cells.toArray,.func (.func g) #[] cap] U fun e w'=>e=.returned (.tuple #[])/\R (mT (o.dS hs)) w':=by
 rcases Oo (o.dS hs)with hc|⟨hc|hc|hc|hc|hc,hr⟩
 ·exact Sk U T o hs g cap eg R h0 cL jq ho hc
 all_goals exact Oq U T o hs g cap eg R h0 cL jq ho (by simp[hc]) hr
theorem ji{P:Program}{fn:Func}{p u v:Tmp}{ty:TypeId}(h:fn.results= #[.cell p ty,.tmp u,.tmp v])(tmps:bS)(w:World)(g:Nat)(t:TypeId)(cs:bS)(fr:Nat×Nat)(d:TypeDesc)
  (hp:tmps.getD p undef=.pointer (some ⟨g,0,none⟩))(hg:w.heap[g]?=some (.cells cs t fr))
  (hu:P.underlying ty=some d)(hd:(match d with| .struct _| .array _ _=>true|_=>false)=true)(hi:(P.info? ty).map (·.size)=some cs.size) :
  (results fn tmps).run P w=.ok (.tuple #[.agg cs,tmps.getD u undef,tmps.getD v undef]) w:=by
 have hp':tmps[p]?.getD undef=.pointer (some ⟨g,0,none⟩):=by simpa using hp
 simp[results,h,hp',asAddr,run_loadVar_row w g t ty cs fr d hg hu hd hi,Result.andThen]
def Tt(n:Nat)(o:jz)(ah:eQ)(nh ch:Nat)(r:kM)(ng fin:Int):aX:=[.int .i64 n,.int .i64 o.what,.int .i64 o.aJ.part,.bool o.aJ.cW.aE,.string o.aJ.cW.host,.int .i64 o.aJ.cW.port,.bool o.aJ.o.aE,.string o.aJ.o.host,.int .i64 o.aJ.o.port,.string o.aJ.path,.string o.aJ.query,.string o.aJ.method,.slice ah nh ch,.bool o.aJ.fN,.string o.aJ.body,.bool o.proxy,.string o.text,.string o.user,.string o.pass,.string o.bK,.int .i64 o.cert,.bool o.all,.int .i64 o.n,.int .i64 r.what,.string r.head,.int .i64 r.cert,.int .i64 ng,.int .i64 fin]
theorem IG{n:Nat}{o:jz}{hs:List gY}(h:o.aJ.en=.slice ah hs.length ch)(op:kl)(r:kM)(ng fin:Int):Iw (⟨n,op,r,ng,fin⟩,(o,hs))=Tt n o ah hs.length ch r ng fin:=by
 unfold Iw jz.cells gl.cells;rw[h];rfl
theorem Ws{o:jz}{nh:Nat}(h:o.aJ.en=.slice ah nh ch):o.cells=[.int .i64 o.what,.int .i64 o.aJ.part,.bool o.aJ.cW.aE,.string o.aJ.cW.host,.int .i64 o.aJ.cW.port,.bool o.aJ.o.aE,.string o.aJ.o.host,.int .i64 o.aJ.o.port,.string o.aJ.path,.string o.aJ.query,.string o.aJ.method,.slice ah nh ch,.bool o.aJ.fN,.string o.aJ.body,.bool o.proxy,.string o.text,.string o.user,.string o.pass,.string o.bK,.int .i64 o.cert,.bool o.all,.int .i64 o.n]:=by
 unfold jz.cells gl.cells;rw[h];rfl
theorem IH(n:Nat)(o:jz)(ah:eQ)(nh ch:Nat)(r:kM)(ng fin:Int):∀u∈Tt n o ah nh ch r ng fin,u.oneCell'=true:=by
 intro u hu;unfold Tt at hu;simp only[bB,cz,dU]at hu;rcases hu with rfl|rfl|rfl|rfl|rfl|rfl|rfl|rfl|rfl|rfl|rfl|rfl|rfl|rfl|rfl|rfl|rfl|rfl|rfl|rfl|rfl|rfl|rfl|rfl|rfl|rfl|rfl|rfl<;>rfl
theorem aak(n:Nat)(o:jz)(ah:eQ)(nh ch:Nat)(r:kM)(ng fin:Int):prog.built 88 [(0,.int .i64 n),(1,.agg #[.int .i64 o.what,.int .i64 o.aJ.part,.bool o.aJ.cW.aE,.string o.aJ.cW.host,.int .i64 o.aJ.cW.port,.bool o.aJ.o.aE,.string o.aJ.o.host,.int .i64 o.aJ.o.port,.string o.aJ.path,.string o.aJ.query,.string o.aJ.method,.slice ah nh ch,.bool o.aJ.fN,.string o.aJ.body,.bool o.proxy,.string o.text,.string o.user,.string o.pass,.string o.bK,.int .i64 o.cert,.bool o.all,.int .i64 o.n]),(2,.agg #[.int .i64 r.what,.string r.head,.int .i64 r.cert]),(3,.int .i64 ng),(4,.int .i64 fin)]=some (Tt n o ah nh ch r ng fin).toArray:=af
def Ed:bS:= #[.int .i64 0,.int .i64 0,.int .i64 0,.bool false,.string ⟨#[]⟩,.int .i64 0,.bool false,.string ⟨#[]⟩,.int .i64 0,.string ⟨#[]⟩,.string ⟨#[]⟩,.string ⟨#[]⟩,.slice none 0 0,.bool false,.string ⟨#[]⟩,.bool false,.string ⟨#[]⟩,.string ⟨#[]⟩,.string ⟨#[]⟩,.string ⟨#[]⟩,.int .i64 0,.bool false,.int .i64 0,.int .i64 0,.string ⟨#[]⟩,.int .i64 0,.int .i64 0,.int .i64 0]
theorem II:(prog.info? 88).map (fun i=>(i.zero,i.size,i.bytes))=some (some (.agg Ed),28,328):=af
theorem Ot(n:Nat)(o:jz)(ah:eQ)(nh ch:Nat)(r:kM)(ng fin:Int):Instr.fill (fun i=>some (i*28,28)) ((Array.range (1*28)).map ((Value.agg Ed).cells[· %(Value.agg Ed).cells.size]!)) [(0,.agg (Tt n o ah nh ch r ng fin).toArray)]=some (Tt n o ah nh ch r ng fin).toArray:=af
theorem uP{P:Program}{ops:Array Oper}{o:Oper}{a:Act}{w:World}{K:Act->World->Prop}{Q:Exit->Act->World->Prop}{E:Prop}(yE:o.guard=none)(t e:TypeId)(len:Nat)(parts:Array (Nat×Operand))(ho:o.op=.buildSlice t len parts)
  (cells:bS)(ie:TypeInfo)(z:Value)(vs:List (Nat×Value))(he:(parts.map fun(i,x)=>(i,a.eval x)).toList=vs)
  (hu:P.underlying t=some (.slice e))(hie:P.info? e=some ie)(hz:ie.zero=some z)(G8:¬len*ie.size>2^24)(pU:¬len*ie.size=0)
  (hf:Instr.fill (fun i=>some (i*ie.size,ie.size)) ((Array.range (len*ie.size)).map (z.cells[· %z.cells.size]!)) vs=some cells)
  (h:K (a.put o.dst (.slice (some ⟨w.heap.size,0,none⟩) len len)) (w.alloc (.cells cells e))):if Region.wanted o (yielded ops a.tmps)=true then Oper.wp P o a w K Q else E:=by
 have hw:Region.wanted o (yielded ops a.tmps)=true:=by simp[Region.wanted,yE]
 rw[aA hw];exact wp_buildSlice t e len parts ho cells ie z hu hie hz G8 pU (by rw[he];exact hf) h
theorem kG{b o:Nat}{p q r:aX}(h:U.rangeAt b o (p++(q++r))):U.rangeAt b (o+p.length) q:=fun j v hj=>by
 have hl:=(List.getElem?_eq_some_iff.1 hj).1;have:=h (p.length+j) v (by rw[List.getElem?_append_right ab,show p.length+j-p.length=j from ab,List.getElem?_append_left hl];exact hj)
 rwa [<-Nat.add_assoc]at this
theorem yu{o:Nat}(h:U.rangeAt T o cs)(hk:o+cs.length<=k):(U.setCell ⟨T,k,none⟩ v).rangeAt T o cs:=bX h T k [v] (Or.inr (Or.inl hk))
section
variable {xw : Option (Nat × dN)} {a U U' : World} {T : Nat} {t : im}
def aal(o:jz)(ah:eQ)(nh ch:Nat)(r:kM)(ng steps:Int)(i T R:Nat)(V:World):Prop:=V.rangeAt T (17+i*45+1) [.int .i64 o.what,.int .i64 o.aJ.part,.bool o.aJ.cW.aE,.string o.aJ.cW.host,.int .i64 o.aJ.cW.port,.bool o.aJ.o.aE,.string o.aJ.o.host,.int .i64 o.aJ.o.port,.string o.aJ.path,.string o.aJ.query,.string o.aJ.method,.slice ah nh ch,.bool o.aJ.fN,.string o.aJ.body,.bool o.proxy,.string o.text,.string o.user,.string o.pass,.string o.bK,.int .i64 o.cert,.bool o.all,.int .i64 o.n]/\V.rangeAt R 0 [.int .i64 r.what,.string r.head,.int .i64 r.cert]/\V.cell? ⟨T,17+i*45+24,none⟩=some (.int .i64 ng)/\V.cell? ⟨T,287,none⟩=some (.int .i64 steps)
theorem f_.aal{B:Nat}{g:Nat->qB}{sv:Value}(h:f_ U T B g sv t){i:Nat}(hi:i<6){ah:eQ}{nh ch R:Nat}{r:kM}(hh:(g i).o.aJ.en=.slice ah nh ch)(hR:U.heap[R]?=some (.cells (qg r).toArray 46 (0,0))) :
  aal (g i).o ah nh ch r (t.tab i).ng t.steps i T R U:=by
 refine⟨?_,BM (cs:=qg r) hR,h.tab i hi 24 _ rfl,h.steps⟩;have:=kG (p:=[.int .i64 (t.tab i).does]) (q:=(g i).o.cells) (h.tab i hi);rw[Ws hh]at this;exact this
theorem f_.more{B:Nat}{g:Nat->qB}{sv v':Value}{sb:Nat->Nat}{es:List (P7×(jz×List gY))}(h1:f_ U T B g sv t)(h2:xz a.heap.size U (oU xw B sb t))(Mn:es.map (·.1)=t.fJ)(mg:OwnRows a.heap.size 88 28 U sv (es.map Iw))(B_:∀x∈es,j_ a.heap.size U x.2 x.1.op)
  (h4:∀n,n<6->((t.tab n).does≠0->j_ a.heap.size U ((g n).o,(g n).hs) (t.tab n).op)/\((t.tab n).does=2\/(t.tab n).does=3->(g n).sp=.pointer (some ⟨sb n,0,none⟩)))(k_:a.heap.size<=T)(cL:Fr aS a U)
  {i:Nat}(hi:i<6)(hd:(t.tab i).does≠0)(r:kM)(hF:Fr (own sv) U U')(cQ:OwnRows a.heap.size 88 28 U' v' (es.map Iw++[Iw (⟨i,(t.tab i).op,r,(t.tab i).ng,t.steps⟩,((g i).o,(g i).hs))])) :
  f_ U' T B g sv t/\df xw a ((U'.setCell ⟨T,288,none⟩ v').setCells T (17+i*45) (mQ fW zeroV)) T (nx t i r)/\(U'.setCell ⟨T,288,none⟩ v').there T (17+i*45) 45/\Fr (one T) U' ((U'.setCell ⟨T,288,none⟩ v').setCells T (17+i*45) (mQ fW zeroV))/\gN U ((U'.setCell ⟨T,288,none⟩ v').setCells T (17+i*45) (mQ fW zeroV)):=by
 obtain⟨d,hbd,_⟩:=h1.eJ;have hk:∀n,own sv n->∃c,U.heap[n]?=some (.cells c 88 (0,0)):=fun n hn=>mg.Bt hn;have hT:¬own sv T:=fun e=>by
  obtain⟨c,hc⟩:=hk T e;rw[hbd]at hc;cases hc
 have b1:=h1.fr hF hT;have b2:=h2.far hF (fun n hn=>mg.block n hn) (fun n hn=>by
  obtain⟨c,hc⟩:=hk n hn;exact⟨c,_,hc,uF.1,uF.2,ag⟩)
 have ho:∀ {v:jz×List gY} {o:kl},j_ a.heap.size U v o->j_ a.heap.size U' v o:=fun q=>q.rows (q.own.fr hF fun b hb hs=>by
  obtain⟨c,hc⟩:=hk b hs;exact q.own.not hc ag hb)
 have b3:ph a.heap.size U' v' (t.fJ++[⟨i,(t.tab i).op,r,(t.tab i).ng,t.steps⟩]):=by
  refine⟨es++[(⟨i,(t.tab i).op,r,(t.tab i).ng,t.steps⟩,((g i).o,(g i).hs))],by rw[bG,Mn];rfl,by rw[bG];exact cQ,fun x hx=>?_⟩;rcases bQ.1 hx with hx|hx
  ·exact ho (B_ x hx)
  ·rcases cZ.1 hx with rfl
   exact ho ((h4 i hi).1 hd)
 have q1:=b1.V7 v' (t.fJ++[⟨i,(t.tab i).op,r,(t.tab i).ng,t.steps⟩]);have q2:=q1.1.N7 hi fW zeroV;have hkt:gN U ((U'.setCell ⟨T,288,none⟩ v').setCells T (17+i*45) (mQ fW zeroV)):=by
  obtain⟨d',sF,_⟩:=b1.eJ;refine((lo U).step hF fun n c e _ hn he q=>?_).tabs sF (q1.2.trans q2.2);obtain⟨c',XD⟩:=hk n q;rw[XD]at hn;cases hn;exact he.2.1 rfl
 refine⟨b1,?_,q1.1.there ab,q1.2.trans q2.2,hkt⟩;have apJ:Fr aS a U':=cL.step hF fun k hk e=>by have:=mg.block k e;omega
 obtain⟨c',XD,_⟩:=b1.eJ;obtain⟨c2,se,_⟩:=q1.1.eJ;have b2':=(b2.one k_ XD rh.1 rh.2 ag q1.2);have b3':=(b3.one XD ag ag q1.2)
 exact kt (t:={t with fJ:=t.fJ++[⟨i,(t.tab i).op,r,(t.tab i).ng,t.steps⟩]}) (t':=nx t i r) q1.1 b2' b3' (fun n hn=>⟨fun sF=>(ho ((h4 n hn).1 sF)).one XD ag q1.2,(h4 n hn).2⟩) k_ (apJ.step q1.2 fun k hk e=>by have e':k=T:=e;omega) q2 rfl (N_ (t:={t with fJ:=t.fJ++[⟨i,(t.tab i).op,r,(t.tab i).ng,t.steps⟩]}) (t':=nx t i r) rfl i (fun n hn=>ar hn) (by simp[nx,fW]) (by simp[nx,fW])) (fun j hj=>by
   by_cases ei:j=i
   ·subst ei;simp[nx,fW]
   ·simp only[nx,ar ei];exact⟨fun sF=>Or.inl ⟨trivial,trivial,trivial,sF⟩,(h4 j hj).2⟩)
theorem Ee(h:df xw a U T t){i:Nat}(hi:i<6)(r:kM)(hd:(t.tab i).does≠0)(hl:t.fJ.length<1000000) :
  aB 53 #[.pointer (some ⟨T,0,none⟩),.int .i64 i,.pointer (some ⟨T,17+i*45,none⟩),.agg #[.int .i64 r.what,.string r.head,.int .i64 r.cert]] U fun e w'=>e=.returned (.tuple #[.agg #[.int .i64 r.what,.string r.head,.int .i64 r.cert],.bool true,.nilIface])/\df xw a w' T (nx t i r)/\gN U w':=by
 obtain⟨x2,Pp⟩:∃x2,x2=(U.alloc (.cells #[.int .i64 r.what,.string r.head,.int .i64 r.cert] 46)).alloc (.cells #[.int .i64 0,.string ⟨#[]⟩,.int .i64 0] 46):=⟨_,rfl⟩;have dz:Fr aS U x2:=by rw[Pp];exact((ae aS U).alloc _).alloc _
 have k7:x2.heap[U.heap.size]?=some (.cells #[.int .i64 r.what,.string r.head,.int .i64 r.cert] 46 (0,0)):=by rw[Pp];exact((ae aS _).alloc _).keep (aC _ _) id
 have k8:x2.heap[U.heap.size+1]?=some (.cells #[.int .i64 0,.string ⟨#[]⟩,.int .i64 0] 46 (0,0)):=by
  rw[Pp];have:=aC (U.alloc (.cells #[.int .i64 r.what,.string r.head,.int .i64 r.cert] 46)) (.cells #[.int .i64 0,.string ⟨#[]⟩,.int .i64 0] 46);simpa using this
 have hU2:x2.heap.size=U.heap.size+2:=by rw[Pp];simp
 have fY:=O (dz.drew);obtain⟨R,hR⟩:∃R,R=U.heap.size:=⟨_,rfl⟩;have hxd:x2.drew.heap.size=R+2:=hU2.trans (by rw[hR]);have h':=h.di (dz.drew);have k7':x2.drew.heap[R]?=some (.cells #[.int .i64 r.what,.string r.head,.int .i64 r.cert] 46 (0,0)):=by rw[hR];exact k7
 have k8':x2.drew.heap[R+1]?=some (.cells #[.int .i64 0,.string ⟨#[]⟩,.int .i64 0] 46 (0,0)):=by rw[hR];exact k8
 obtain⟨B,g,sv,sb,h1,h2,⟨es,Mn,mg,B_⟩,h4⟩:=h'.ex;have hTl:T<R:=by
  obtain⟨_,_,_,_,q1,_⟩:=h.ex;have:=q1.lt;omega
 have P1:=(h4 i hi).1 hd;obtain⟨ah,ch,hh⟩:=P1.own.form;rw[ai]at hh;have F1:=h1.aal hi hh k7';have ab_:=O (fun U' v' r hF cQ=>f_.more (U':=U') (v':=v') h1 h2 Mn mg B_ h4 h'.low h'.fr hi hd r hF cQ);have apL:es.length<1000000:=by rw[<-ai (f:=(·.1)),Mn];exact hl
 have ix:a.heap.size<=R:=by have:=h.fr.size;omega
 obtain⟨x,hX⟩:∃x,x=Tt i (g i).o ah (g i).hs.length ch r (t.tab i).ng t.steps:=⟨_,rfl⟩;have ZY:=O (IG (n:=i) hh (t.tab i).op r (t.tab i).ng t.steps);have Mu:=O (show∀u∈x,u.oneCell'=true by rw[hX];exact IH _ _ _ _ _ _ _ _);have HXL:=O (show x.length=28 by rw[hX];rfl);obtain⟨asv,csv,Wt⟩:=mg.form;rw[ai]at Wt
 have ab':=O (show x2.drew.ownsRow a.heap.size 88 28 (.slice asv es.length csv) es.length (es.map Iw).flatten by
  have q:=mg.2
  rwa [ai,Wt]at q)
 have ae1:=O (show∀n c e,x2.drew.heap[n]?=some (.cells c e (0,0))->e≠88->(Value.slice asv es.length csv).ownBlock≠some n from fun n c e hn he=>by rw[<-Wt];exact mg.not hn he);have HES:=O (show∀y∈es.map Iw,y.length=28/\∀u∈y,u.oneCell'=true from mg.1);have HBT:=O (h1.eJ);have d288:=h1.st;rw[Wt]at d288 ab_;have HR:=O hR;have HRU:=O (show U.heap.size<=R+1 from ab);have HX:=O Pp;have Ve:=O hX
 have HK7:=O k7';have HK8:=O k8';have HXD:=O hxd;obtain⟨i0,qp,o9,kQ,ld⟩:=info_parts II;generalize (g i).o=o at *
 generalize (g i).hs=hs at *
 generalize hnh:hs.length=nh at *
 generalize apN:(t.tab i).ng=ng at *
 generalize apO:t.steps=steps at *
 clear hnh h1 h2 Mn mg B_ h4 h' h hd P1 hh Wt dz k7 k8 k7' k8' hX Pp hR hU2 apN apO hxd;go_enter func53,ntmps53;go_wp2_with fail
 rw[<-HX.o, <-HR.o];clear HX;unfold Go.Proofs.YtjndhcngnghpiaaGreatDoor.aal at F1
 refine wp_region_held_drew (S:=(fun V=>V.rangeAt T (17+i*45+1) [.int .i64 o.what,.int .i64 o.aJ.part,.bool o.aJ.cW.aE,.string o.aJ.cW.host,.int .i64 o.aJ.cW.port,.bool o.aJ.o.aE,.string o.aJ.o.host,.int .i64 o.aJ.o.port,.string o.aJ.path,.string o.aJ.query,.string o.aJ.method,.slice ah nh ch,.bool o.aJ.fN,.string o.aJ.body,.bool o.proxy,.string o.text,.string o.user,.string o.pass,.string o.bK,.int .i64 o.cert,.bool o.all,.int .i64 o.n]/\V.rangeAt R 0 [.int .i64 r.what,.string r.head,.int .i64 r.cert]/\V.cell? ⟨T,17+i*45+24,none⟩=some (.int .i64 ng)/\V.cell? ⟨T,287,none⟩=some (.int .i64 steps))) af (by exact F1) ?_
 intro Aj;refine aW 0 11 rfl ?_;refine aW 1 12 rfl ?_;refine aW 2 13 rfl ?_;refine aW 3 14 rfl ?_;refine aW 5 16 rfl ?_;refine aW 6 17 rfl ?_;refine aW 7 18 rfl ?_;refine aW 8 19 rfl ?_
 refine v8 9 20 rfl (gR bC 33 (.tmp 19) rfl T (17+i*45+1) rfl ([.int .i64 o.what,.int .i64 o.aJ.part,.bool o.aJ.cW.aE,.string o.aJ.cW.host,.int .i64 o.aJ.cW.port,.bool o.aJ.o.aE,.string o.aJ.o.host,.int .i64 o.aJ.o.port,.string o.aJ.path,.string o.aJ.query,.string o.aJ.method,.slice ah nh ch,.bool o.aJ.fN,.string o.aJ.body,.bool o.proxy,.string o.text,.string o.user,.string o.pass,.string o.bK,.int .i64 o.cert,.bool o.all,.int .i64 o.n]) _ (fun w hw=>hw.1) underlying33 rfl af) ?_
 try simp only[Act.put,sA,sB,sC]
 refine v8 10 21 rfl (gR bC 46 (.tmp 7) rfl R 0 rfl ([.int .i64 r.what,.string r.head,.int .i64 r.cert]) _ (fun w hw=>hw.2.1) underlying46 rfl af) ?_
 try simp only[Act.put,sA,sB,sC]
 refine aW 11 22 rfl ?_;refine aW 12 23 rfl ?_;refine aW 13 24 rfl ?_;refine aW 14 25 rfl ?_;refine aW 15 26 rfl ?_;refine aW 16 27 rfl ?_;refine aW 17 28 rfl ?_;refine aW 18 29 rfl ?_
 have XS:prog.built 88 [(0,.int .i64 i),(1,.agg #[.int .i64 o.what,.int .i64 o.aJ.part,.bool o.aJ.cW.aE,.string o.aJ.cW.host,.int .i64 o.aJ.cW.port,.bool o.aJ.o.aE,.string o.aJ.o.host,.int .i64 o.aJ.o.port,.string o.aJ.path,.string o.aJ.query,.string o.aJ.method,.slice ah nh ch,.bool o.aJ.fN,.string o.aJ.body,.bool o.proxy,.string o.text,.string o.user,.string o.pass,.string o.bK,.int .i64 o.cert,.bool o.all,.int .i64 o.n]),(2,.agg #[.int .i64 r.what,.string r.head,.int .i64 r.cert]),(3,.int .i64 ng),(4,.int .i64 steps)]=some x.toArray:=by rw[Ve.o];exact aak i o ah nh ch r ng steps
 refine v8 19 30 rfl (xA rfl 88 _ rfl x.toArray _ (by simp only[eC,cD,dp];rfl) XS) ?_;clear XS
 try simp only[Act.put,sA,sB,sC]
 have NU:=O Aj;have HD:=O d288;clear d288;refine wpAnyH_ready (rs:=[4,20]) af aR ?_;refine AllReadyH.cons rfl (fun K hK=>?hA) (AllReadyH.cons rfl (fun K hK=>?hB) AllReadyH.nil)
 case' hA =>
  have d288:=HD.o;go_simp;refine hK.out _ _ NU.o ?_;intro yl;clear hK K yl d288
  try simp only[Act.put,sA,sB,sC]
  refine eT 20 rfl fun K hK=>?_;have zt:Instr.fill (fun i=>some (i*28,28)) ((Array.range (1*28)).map ((Value.agg Ed).cells[· %(Value.agg Ed).cells.size]!)) [(0,.agg x.toArray)]=some x.toArray:=by rw[Ve.o];exact Ot i o ah nh ch r ng steps
  refine uP rfl 54 88 1 _ rfl x.toArray i0 (.agg Ed) [(0,.agg x.toArray)] (by simp only[eC,cD,dp];rfl) underlying54 qp o9 (by rw[kQ];decide) (by rw[kQ];decide) (by rw[kQ];exact zt) ?_;clear zt;obtain⟨x3,xk⟩:∃x3,x3=x2.drew.alloc (.cells x.toArray 88):=⟨_,rfl⟩;have EA:Fr aS x2.drew x3:=by rw[xk];exact(ae aS _).alloc _
  have ae2:x3.heap.size=R+3:=by rw[xk];simp[HXD.o]
  have hN3:∀j u,x[j]?=some u->x3.cell? ((⟨R+2,0,none⟩:Addr).add j)=some u:=by
   rw[xk, <-HXD.o];exact kF _ x _
  have HO3:x3.ownsRow a.heap.size 88 28 (.slice asv es.length csv) es.length (es.map Iw).flatten:=by rw[xk];exact World.ownsRow.alloc ab'.o _
  have E_:(x3).rangeAt T (17+i*45+1) [.int .i64 o.what,.int .i64 o.aJ.part,.bool o.aJ.cW.aE,.string o.aJ.cW.host,.int .i64 o.aJ.cW.port,.bool o.aJ.o.aE,.string o.aJ.o.host,.int .i64 o.aJ.o.port,.string o.aJ.path,.string o.aJ.query,.string o.aJ.method,.slice ah nh ch,.bool o.aJ.fN,.string o.aJ.body,.bool o.proxy,.string o.text,.string o.user,.string o.pass,.string o.bK,.int .i64 o.cert,.bool o.all,.int .i64 o.n]/\(x3).rangeAt R 0 [.int .i64 r.what,.string r.head,.int .i64 r.cert]/\(x3).cell? ⟨T,17+i*45+24,none⟩=some (.int .i64 ng)/\(x3).cell? ⟨T,287,none⟩=some (.int .i64 steps):=(⟨pQ NU.o.1 EA id,pQ NU.o.2.1 EA id,nQ NU.o.2.2.1 EA id,nQ NU.o.2.2.2 EA id⟩)
  have d288:=nQ HD.o EA id;rw[<-xk,HXD.o];refine hK.out _ _ E_ ?_;clear hK K xk;intro BJ
 case' hB =>
  have zt:Instr.fill (fun i=>some (i*28,28)) ((Array.range (1*28)).map ((Value.agg Ed).cells[· %(Value.agg Ed).cells.size]!)) [(0,.agg x.toArray)]=some x.toArray:=by rw[Ve.o];exact Ot i o ah nh ch r ng steps
  refine uP rfl 54 88 1 _ rfl x.toArray i0 (.agg Ed) [(0,.agg x.toArray)] (by simp only[eC,cD,dp];rfl) underlying54 qp o9 (by rw[kQ];decide) (by rw[kQ];decide) (by rw[kQ];exact zt) ?_;clear zt;obtain⟨x3,xk⟩:∃x3,x3=x2.drew.alloc (.cells x.toArray 88):=⟨_,rfl⟩;have EA:Fr aS x2.drew x3:=by rw[xk];exact(ae aS _).alloc _
  have ae2:x3.heap.size=R+3:=by rw[xk];simp[HXD.o]
  have hN3:∀j u,x[j]?=some u->x3.cell? ((⟨R+2,0,none⟩:Addr).add j)=some u:=by
   rw[xk, <-HXD.o];exact kF _ x _
  have HO3:x3.ownsRow a.heap.size 88 28 (.slice asv es.length csv) es.length (es.map Iw).flatten:=by rw[xk];exact World.ownsRow.alloc ab'.o _
  have E_:(x3).rangeAt T (17+i*45+1) [.int .i64 o.what,.int .i64 o.aJ.part,.bool o.aJ.cW.aE,.string o.aJ.cW.host,.int .i64 o.aJ.cW.port,.bool o.aJ.o.aE,.string o.aJ.o.host,.int .i64 o.aJ.o.port,.string o.aJ.path,.string o.aJ.query,.string o.aJ.method,.slice ah nh ch,.bool o.aJ.fN,.string o.aJ.body,.bool o.proxy,.string o.text,.string o.user,.string o.pass,.string o.bK,.int .i64 o.cert,.bool o.all,.int .i64 o.n]/\(x3).rangeAt R 0 [.int .i64 r.what,.string r.head,.int .i64 r.cert]/\(x3).cell? ⟨T,17+i*45+24,none⟩=some (.int .i64 ng)/\(x3).cell? ⟨T,287,none⟩=some (.int .i64 steps):=(⟨pQ NU.o.1 EA id,pQ NU.o.2.1 EA id,nQ NU.o.2.2.1 EA id,nQ NU.o.2.2.2 EA id⟩)
  have d288:=nQ HD.o EA id;rw[<-xk,HXD.o];refine hK.out _ _ E_ ?_;clear hK K xk;intro BJ
  try simp only[Act.put,sA,sB,sC]
  refine eT 4 rfl fun K hK=>?_;go_simp;refine hK.out _ _ E_ ?_;intro AX;clear hK K AX
 all_goals
  try simp only[Act.put,sA,sB,sC]
  clear Aj;refine eT 21 rfl fun K hK=>?_;refine step_append_lies (w:=x3) rfl (.tmp 15) (.tmp 31) 54 rfl a.heap.size 88 i0 _ 28 328 underlying54 qp o9 kQ ld rfl ab (.slice asv es.length csv) es.length _ rfl HO3 ⟨R+2,0,none⟩ 1 1 x rfl (by rw[HXL.o]) hN3 Mu.o ab ft ab ab (R+3) ae2 ?_;intro gg cap w4 eZ js dP KG
  have jO:Fr (own (.slice asv es.length csv)) x2.drew w4:=fl (EA.mono (fun _ _ h=>absurd h id)) js (fun _ hk _=>hk);have hm:=ab_.o w4 (.slice (some ⟨gg,0,none⟩) (es.length+1) cap) r jO (by
   refine⟨fun y hy=>?_,?_⟩
   ·rcases bQ.1 hy with hy|hy
    ·exact HES.o y hy
    ·rcases cZ.1 hy with rfl
     rw[ZY.o, <-Ve.o];exact⟨HXL.o,Mu.o⟩
   ·rw[ZY.o, <-Ve.o,aN,ai,ed];simpa using eZ)
  obtain⟨m1,m2,m3,m4,m5⟩:=hm;have HM5:=O ((eH fY.o).trans m5);have HM2:=O m2;have SW:=O m3;have HM4:=O m4;have nR:=ae1.o R _ _ HK7.o ag;have nT:(Value.slice asv es.length csv).ownBlock≠some T:=by
   obtain⟨bt,XS,_⟩:=HBT.o;exact ae1.o T _ _ XS ag
  have n7:=jO.keep HK7.o nR;have n8:=jO.keep HK8.o (ae1.o _ _ _ HK8.o ag);have apQ:=m1.st;have f288:=m1.free 288
  have AX:(w4).rangeAt T (17+i*45+1) [.int .i64 o.what,.int .i64 o.aJ.part,.bool o.aJ.cW.aE,.string o.aJ.cW.host,.int .i64 o.aJ.cW.port,.bool o.aJ.o.aE,.string o.aJ.o.host,.int .i64 o.aJ.o.port,.string o.aJ.path,.string o.aJ.query,.string o.aJ.method,.slice ah nh ch,.bool o.aJ.fN,.string o.aJ.body,.bool o.proxy,.string o.text,.string o.user,.string o.pass,.string o.bK,.int .i64 o.cert,.bool o.all,.int .i64 o.n]/\(w4).rangeAt R 0 [.int .i64 r.what,.string r.head,.int .i64 r.cert]/\(w4).cell? ⟨T,17+i*45+24,none⟩=some (.int .i64 ng)/\(w4).cell? ⟨T,287,none⟩=some (.int .i64 steps):=(⟨pQ NU.o.1 jO nT,pQ NU.o.2.1 jO nR,nQ NU.o.2.2.1 jO nT,nQ NU.o.2.2.2 jO nT⟩)
  have Y':=O m1;refine hK.out _ _ AX ?_;intro hS5;clear hK K m1 m2 m3 m4 m5 eZ js dP KG HO3 hN3 E_ d288
  try simp only[Act.put,sA,sB,sC]
  refine aW 22 33 rfl ?_;refine aW 23 34 rfl ?_;refine eT 24 rfl fun K hK=>?_;go_simp;have hFT:Fr (one T) w4 (w4.setCell ⟨T,288,none⟩ (.slice (some ⟨gg,0,none⟩) (es.length+1) cap)):=(ae (one T) _).setCell (p:=⟨T,288,none⟩) (fun _=>rfl) _;have hRT:R≠T:=ab
  have hS6:(w4.setCell ⟨T,288,none⟩ (.slice (some ⟨gg,0,none⟩) (es.length+1) cap)).rangeAt T (17+i*45+1) [.int .i64 o.what,.int .i64 o.aJ.part,.bool o.aJ.cW.aE,.string o.aJ.cW.host,.int .i64 o.aJ.cW.port,.bool o.aJ.o.aE,.string o.aJ.o.host,.int .i64 o.aJ.o.port,.string o.aJ.path,.string o.aJ.query,.string o.aJ.method,.slice ah nh ch,.bool o.aJ.fN,.string o.aJ.body,.bool o.proxy,.string o.text,.string o.user,.string o.pass,.string o.bK,.int .i64 o.cert,.bool o.all,.int .i64 o.n]/\(w4.setCell ⟨T,288,none⟩ (.slice (some ⟨gg,0,none⟩) (es.length+1) cap)).rangeAt R 0 [.int .i64 r.what,.string r.head,.int .i64 r.cert]/\(w4.setCell ⟨T,288,none⟩ (.slice (some ⟨gg,0,none⟩) (es.length+1) cap)).cell? ⟨T,17+i*45+24,none⟩=some (.int .i64 ng)/\(w4.setCell ⟨T,288,none⟩ (.slice (some ⟨gg,0,none⟩) (es.length+1) cap)).cell? ⟨T,287,none⟩=some (.int .i64 steps):=(⟨yu AX.1 bH,pQ AX.2.1 hFT (fun e=>hRT e),eU (vs:=[_]) AX.2.2.1 (Or.inl ab),eU (vs:=[_]) AX.2.2.2 (Or.inl ab)⟩)
  refine hK.out _ _ hS6 ?_;intro hS7;clear hK K hS7 hS5;refine wpAnyH_done af ?_ _;have p7:=hFT.keep n7 (fun e=>hRT e);have p8:=hFT.keep n8 (fun e=>by have e':R+1=T:=e;omega);have HP7:=O (((HM4.o).keep n7 (fun e=>hRT e)));have HP8:=O (((HM4.o).keep n8 (fun e=>by have e':R+1=T:=e;omega)));clear AX hS6 n7 n8 apQ f288 jO EA ae2
  generalize w4.setCell ⟨T,288,none⟩ (.slice (some ⟨gg,0,none⟩) (es.length+1) cap)=W5 at *
  go_wp2_with (first|((with_reducible refine cV 75 ?_);refine ig rfl 75 _ _ rfl T (17+i*45) (mQ fW zeroV).toArray rfl rfl SW.o rfl (zR _ _ rfl rfl) ?_)|((with_reducible refine dk 38 ?_);refine aI rfl 46 (.tmp 7) rfl R rfl _ #[.int .i64 r.what,.string r.head,.int .i64 r.cert] (0,0) _ HP7.o underlying46 rfl (bf _ rfl) ?_)|((with_reducible refine cV 46 ?_);refine aG rfl 46 (.tmp 8) (.tmp 38) rfl (R+1) #[.int .i64 r.what,.string r.head,.int .i64 r.cert] rfl rfl _ bR HP8.o (bf _ rfl) rfl ct ?_)|fail)
  refine aU (ji bC _ _ (R+1) 46 #[.int .i64 r.what,.string r.head,.int .i64 r.cert] (0,0) _ rfl (aY _ (R+1) _ _ _ _ HP8.o) underlying46 rfl (bf _ rfl)) rfl ?_;exact⟨rfl,df.far HM2.o ((ae (one (R+1)) _).setRow (fun _=>rfl) _) (fun n hn=>by have e':n=R+1:=hn;omega) (fun n hn=>by cases(show n=R+1 from hn);exact⟨_,_,HP8.o,ID⟩),HM5.o.new ((ae (one (R+1)) _).setRow (fun _=>rfl) _) HRU.o⟩
end
