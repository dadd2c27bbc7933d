/- Lemmas for the law's walk. -/
import Derived.Test.YtnckmcnffadjoaaGreatDoorPk19
set_option maxRecDepth 100000
set_option maxHeartbeats 16000000
set_option linter.unusedSimpArgs false
namespace Go.Proofs.YtnckmcnffadjoaaGreatDoor
open Go.Proofs.Tryz
open Go.RowKit
variable {k g T ch:Nat} {v:Value} {S:dF} {V U:World} {cs:aZ} {o:iE} {ah:eO}
theorem Th:(prog.info? 171).map (fun i=>(i.zero,i.size,i.bytes))=some (some (.agg #[.string ⟨#[]⟩,.string ⟨#[]⟩]),2,32):=af
theorem AF{ops:Array Oper}{rest:List Oper}{o:Oper}{a:Act}{Q:Exit->Act->World->Prop}{w:World}(zm:o.guard=none)(s x:Operand)
  (ho:o.op=.call {callee:=.builtin .append,args:= #[s,x],argTypes:= #[35,35]})(base:Nat)(v:Value)(l:dh)(hs:a.eval s=v)(cW:OwnRows base 171 2 w v l)
  (vx:Value)(m:dh)(hx:a.eval x=vx)(hm:dZ 2 w vx m)(hlen:l.length+m.length<1000000000)(iL:base<=w.heap.size)
  (h:∀v' w',OwnRows base 171 2 w' v' (l++m)->w.grownBy w' v.ownBlock->wpList prog ops Q rest (a.put o.dst v') w'):wpList prog ops Q (o :: rest) a w:=by
 obtain⟨i0,hi,pD,ll,lF⟩:=info_parts Th;obtain⟨ax,cx,fO⟩:=hm.form;have HM:=hm.1;cases ax with
 |none =>
  obtain⟨Zc,h2⟩:m=[]/\cx=0:=by
   rcases hm.2 with ⟨a',c',hv,hs,hc⟩|⟨bk,o',c,hf,_⟩
   ·rw[fO]at hv;injection hv with e1 e2 e3
    exact⟨hs,e3.trans (hc e1.symm)⟩
   ·rw[fO]at hf;injection hf with e1;cases e1
  subst Zc;have UE:a.eval x=.slice none 0 0:=by rw[hx,fO,h2];rfl
  refine wpList_append_own_none zm s x 35 ho base 171 i0 2 underlying35 hi v l.length l.flatten hs cW.2 UE ?_;exact h v w (by rw[dV];exact cW) ⟨rfl,rfl,rfl,ay _,fun _ _ _=>rfl⟩
 |some ad =>
  have Aa:m.flatten.length=m.length*2:=gJ (fun x hx=>(HM x hx).1);refine wpList_append_own w zm s x 35 ho base 171 i0 (.agg #[.string ⟨#[]⟩,.string ⟨#[]⟩]) 2 32 underlying35 hi pD ll lF rfl ag v l.length l.flatten hs cW.2 ad m.length cx m.flatten (hx.trans fO) Aa ?_ ?_ ?_ ?_ iL ?_
  ·intro j u hj;rcases hm.2 with ⟨_,_,_,e,_⟩|⟨bk,o',c,hf,g1,g2,g3,g4⟩
   ·subst e;simp at hj
   ·rw[hf]at fO;cases fO;have Zk:=(List.getElem?_eq_some_iff.1 hj).1;have hd:j/2<m.length:=ab;have hmo:j%2<2:=ab;have oH:(m[j/2]).length=2:=(HM _ (bO hd)).1;have e1:=rN (k:=2) (xs:=m) (fun x hx=>(HM x hx).1) (j:=j/2) (List.getElem?_eq_getElem hd) (i:=j%2) (List.getElem?_eq_getElem (by rw[oH];exact hmo));rw[Nat.div_add_mod']at e1;rw[e1]at hj;cases hj
    have:=g4 (j/2) _ (List.getElem?_eq_getElem hd) (j%2) _ (List.getElem?_eq_getElem (by rw[oH];exact hmo));have ea:(Addr.add ⟨bk,o',none⟩ j)=⟨bk,o'+j,none⟩:=by unfold Addr.add;split<;>simp_all
    rw[ea, <-this]
    congr 2
    omega
  ·intro u hu;obtain⟨y,hy,huy⟩:=fR.1 hu;exact(HM y hy).2 u huy
  ·unfold maxLen;omega
  ·omega
  ·intro v' w' h1 h2 _;refine h v' w' ⟨fun y hy=>?_,by simpa using h1⟩ h2;rcases bL.1 hy with hy|hy
   ·exact cW.1 y hy
   ·exact HM y hy
theorem BN(w:World)(o:jO)(hs:List ig)(hf:gM w o hs) :
  aB 11 #[.agg o.cells.toArray] w fun e w'=>e=.returned (.tuple #[.int .i64 ((cO (o.dW hs)).1:Nat),.bool (cO (o.dW hs)).2])/\Fr aS w w':=by
 obtain⟨ah,ch,g_⟩:=hf.h_;obtain⟨w2,eG⟩:∃w2,w2=w.alloc (.cells o.cells.toArray 41):=⟨_,rfl⟩;have dE:Fr aS w w2:=by rw[eG];exact(ae aS w).alloc _
 have k1:w2.heap[w.heap.size]?=some (.cells o.cells.toArray 41 (0,0)):=by rw[eG];exact aC _ _
 have tU:=O (lJ o hs w2 (hf.dm dE));obtain⟨a0,a1,a2,a3,a4,a5,a6,a7,a8,a9,jP,jQ,a12,jN,jR,jy,j_,ka,ke,ko,a20,a21⟩:=eA k1 g_;have mV:=O k1;have l_:=O g_;have fU:=O dE;rw[eG]at a0 a1 a2 a3 a4 a5 a6 a7 a8 a9 jP jQ a12 jN jR jy j_ ka ke ko a20 a21;rw[eF g_]at eG tU a0 a1 a2 a3 a4 a5 a6 a7 a8 a9 jP jQ a12 jN jR jy j_ ka ke ko a20 a21 ⊢;have nP:=O eG;clear eG g_ dE k1 hf;go_enter func11,ntmps11
 have vX:=O (aC w (.cells #[.int .i64 o.what,.int .i64 o.aN.part,.bool o.aN.dt.aG,.string o.aN.dt.host,.int .i64 o.aN.dt.port,.bool o.aN.o.aG,.string o.aN.o.host,.int .i64 o.aN.o.port,.string o.aN.path,.string o.aN.query,.string o.aN.method,.slice ah hs.length ch,.bool o.aN.f_,.string o.aN.body,.bool o.proxy,.string o.text,.string o.user,.string o.pass,.string o.bS,.int .i64 o.cert,.bool o.all,.int .i64 o.n] 41))
 go_wp2_with (first|((with_reducible refine dr 4 ?_);refine aI rfl 41 (.tmp 1) rfl w.heap.size rfl _ #[.int .i64 o.what,.int .i64 o.aN.part,.bool o.aN.dt.aG,.string o.aN.dt.host,.int .i64 o.aN.dt.port,.bool o.aN.o.aG,.string o.aN.o.host,.int .i64 o.aN.o.port,.string o.aN.path,.string o.aN.query,.string o.aN.method,.slice ah hs.length ch,.bool o.aN.f_,.string o.aN.body,.bool o.proxy,.string o.text,.string o.user,.string o.pass,.string o.bS,.int .i64 o.cert,.bool o.all,.int .i64 o.n] (0,0) _ vX.o underlying41 rfl af ?_)|fail)
 rw[<-nP.o];refine tU.o.mono ?_;rintro e u⟨rfl,hu⟩;clear a0 a1 a2 a3 a4 a5 a6 a7 a8 a9 jP jQ a12 jN jR jy j_ ka ke ko a20 a21 tU;obtain⟨a0,a1,a2,a3,a4,a5,a6,a7,a8,a9,jP,jQ,a12,jN,jR,jy,j_,ka,ke,ko,a20,a21⟩:=eA (hu.keep mV.o id) l_.o;have HU:=O (fU.o.trans hu);clear hu;cases hr:(o.dW hs).right
 ·have HC:=O (show cO (o.dW hs)=(0,false)by unfold cO;rw[hr];rfl);clear hr;go_wp2;go_ret2;rw[HC.o];exact⟨rfl,HU.o⟩
 ·have Xp:=hr;unfold iE.right at Xp;simp only[cy,du]at Xp;have oJ:1<=o.what:=Xp.1;have aqx:o.what<=10:=Xp.2.1;clear Xp;have HC:=O (show cO (o.dW hs)=if o.what=1\/o.what=2\/o.what=3\/o.what=8 then(1,true)else if o.what=4 then(10,false)else if o.what=5 then(10,true)else if o.what=6 then(4,false)else if o.what=7 then(4,true)else if o.what=10 then(8,true)else(7,true)by unfold cO;rw[hr];rfl);clear hr
  have hq:o.what=1\/o.what=2\/o.what=3\/o.what=4\/o.what=5\/o.what=6\/o.what=7\/o.what=8\/o.what=9\/o.what=10:=ab;clear oJ aqx;rcases hq with hq|hq|hq|hq|hq|hq|hq|hq|hq|hq
  ·as_aux_lemma =>
    rw[hq]at a0 HC;have xz:=O (HC.o.trans (by first|rfl|decide));clear HC;have HQ:=O hq;clear hq;go_wp2;go_ret2;rw[xz.o];exact⟨rfl,HU.o⟩
  ·as_aux_lemma =>
    rw[hq]at a0 HC;have xz:=O (HC.o.trans (by first|rfl|decide));clear HC;have HQ:=O hq;clear hq;go_wp2;go_ret2;rw[xz.o];exact⟨rfl,HU.o⟩
  ·as_aux_lemma =>
    rw[hq]at a0 HC;have xz:=O (HC.o.trans (by first|rfl|decide));clear HC;have HQ:=O hq;clear hq;go_wp2;go_ret2;rw[xz.o];exact⟨rfl,HU.o⟩
  ·as_aux_lemma =>
    rw[hq]at a0 HC;have xz:=O (HC.o.trans (by first|rfl|decide));clear HC;have HQ:=O hq;clear hq;go_wp2;go_ret2;rw[xz.o];exact⟨rfl,HU.o⟩
  ·as_aux_lemma =>
    rw[hq]at a0 HC;have xz:=O (HC.o.trans (by first|rfl|decide));clear HC;have HQ:=O hq;clear hq;go_wp2;go_ret2;rw[xz.o];exact⟨rfl,HU.o⟩
  ·as_aux_lemma =>
    rw[hq]at a0 HC;have xz:=O (HC.o.trans (by first|rfl|decide));clear HC;have HQ:=O hq;clear hq;go_wp2;go_ret2;rw[xz.o];exact⟨rfl,HU.o⟩
  ·as_aux_lemma =>
    rw[hq]at a0 HC;have xz:=O (HC.o.trans (by first|rfl|decide));clear HC;have HQ:=O hq;clear hq;go_wp2;go_ret2;rw[xz.o];exact⟨rfl,HU.o⟩
  ·as_aux_lemma =>
    rw[hq]at a0 HC;have xz:=O (HC.o.trans (by first|rfl|decide));clear HC;have HQ:=O hq;clear hq;go_wp2;go_ret2;rw[xz.o];exact⟨rfl,HU.o⟩
  ·as_aux_lemma =>
    rw[hq]at a0 HC;have xz:=O (HC.o.trans (by first|rfl|decide));clear HC;have HQ:=O hq;clear hq;go_wp2;go_ret2;rw[xz.o];exact⟨rfl,HU.o⟩
  ·as_aux_lemma =>
    rw[hq]at a0 HC;have xz:=O (HC.o.trans (by first|rfl|decide));clear HC;have HQ:=O hq;clear hq;go_wp2;go_ret2;rw[xz.o];exact⟨rfl,HU.o⟩
theorem sx{P:Program}{ops:Array Oper}{a:Act}{w:World}{K:Act->World->Prop}{Q:Exit->Act->World->Prop}{E:Prop}{op:Oper}(zm:op.guard=none)(ty:TypeId)(x y:Operand)(ho:op.op=.store ty x y)
  (b o:Nat)(cells:bT)(hx:a.eval x=.pointer (some ⟨b,o,none⟩))(hy:a.eval y=.agg cells)
  (ht:w.there b o cells.size)(hi:(P.info? ty).map (·.size)=some cells.size)(h1:cells.all (·.oneCell')=true)
  (h:K (a.put op.dst undef) (w.setCells b o cells.toList)):if Region.wanted op (yielded ops a.tmps)=true then Oper.wp P op a w K Q else E:=by
 have hw:Region.wanted op (yielded ops a.tmps)=true:=by simp[Region.wanted,zm]
 rw[az hw];exact wp_store_mid ty x y ho b o cells hx hy ht hi h1 h
section
variable {xw : Option (Nat × dD)} {a U U' : World} {T : Nat} {t : fB}
def afR(o:jO)(hs:List ig)(a9:eO)(c9:Nat)(t:fB)(T N:Nat)(V:World):Prop:=V.rangeAt N 0 [.int .i64 o.what,.int .i64 o.aN.part,.bool o.aN.dt.aG,.string o.aN.dt.host,.int .i64 o.aN.dt.port,.bool o.aN.o.aG,.string o.aN.o.host,.int .i64 o.aN.o.port,.string o.aN.path,.string o.aN.query,.string o.aN.method,.slice a9 hs.length c9,.bool o.aN.f_,.string o.aN.body,.bool o.proxy,.string o.text,.string o.user,.string o.pass,.string o.bS,.int .i64 o.cert,.bool o.all,.int .i64 o.n]/\V.cell? ⟨T,287,none⟩=some (.int .i64 (t.steps+1))
theorem dZ.fr1{w w':World}{xs:dh}(h:dZ k w v xs)(hf:Fr S w w')(hn:xs≠ []->∀b,v.ownBlock=some b->¬S b):dZ k w' v xs:=by
 by_cases e:xs=[]
 ·subst e;rcases h.2 with ⟨a,c,e1,_,e3⟩|⟨bk,o,c,e1,h1,h2,h3,h4⟩
  ·exact⟨h.1,Or.inl ⟨a,c,e1,rfl,e3⟩⟩
  ·exact⟨h.1,Or.inr ⟨bk,o,c,e1,h1,h2,cK h3 hf.size,fun j x hx=>by simp at hx⟩⟩
 ·exact h.fr hf (hn e)
theorem vG{N:Nat}{e:TypeId}(h:V.heap[N]?=some (.cells cs.toArray e (0,0))):V.rangeAt N 0 cs:=fun j v hv=>by
 rw[bz];simp only[World.cell?,h];simpa using hv
theorem abb{x1 W:World}{o:jO}{hs:List ig}{a9:eO}{c9 i N:Nat}(hi:i<6)(abc:df xw a W T {t with steps:=t.steps+1})(HO:gM x1 o hs)(hNT:N≠T)(hd:(t.tab i).does=0)
  (hk9:W.heap[N]?=some (.cells (jO.cells {o with aN:={o.aN with eB:=.slice a9 hs.length c9}}).toArray 41 (0,0)))(abd:OwnRows a.heap.size 171 2 W (.slice a9 hs.length c9) (hs.map ig.cells)) :
  afR o hs a9 c9 t T N W.drew/\W.drew.there T (17+i*45) 45/\afR o hs a9 c9 t T N (W.drew.setCells T (17+i*45) (nj {fo with does:=1,op:=o.dW hs,iG:=t.steps+1} ⟨{o with aN:={o.aN with eB:=.slice a9 hs.length c9}},hs,.pointer none⟩))/\df xw a (W.drew.setCells T (17+i*45) (nj {fo with does:=1,op:=o.dW hs,iG:=t.steps+1} ⟨{o with aN:={o.aN with eB:=.slice a9 hs.length c9}},hs,.pointer none⟩)) T {(t.put i {fo with does:=1,op:=o.dW hs,iG:=t.steps+1})with steps:=t.steps+1}/\gW W (W.drew.setCells T (17+i*45) (nj {fo with does:=1,op:=o.dW hs,iG:=t.steps+1} ⟨{o with aN:={o.aN with eB:=.slice a9 hs.length c9}},hs,.pointer none⟩)):=by
 have afS:=abc.dm (aA (ae aS W));have akV:=abd.fr (aA (ae aS W)) (fun _ _ h=>h);obtain⟨B2,g2,sv2,sb2,h1,h2,h3,h4⟩:=afS.ex;have c3:=h1.steps;have akW:W.drew.heap[N]?=some (.cells (jO.cells {o with aN:={o.aN with eB:=.slice a9 hs.length c9}}).toArray 41 (0,0)):=hk9;have q2:=h1.OZ hi {fo with does:=1,op:=o.dW hs,iG:=t.steps+1} ⟨{o with aN:={o.aN with eB:=.slice a9 hs.length c9}},hs,.pointer none⟩
 refine⟨?_,h1.there ab,?_,?_,?_⟩
 ·exact⟨vG (cs:=jO.cells {o with aN:={o.aN with eB:=.slice a9 hs.length c9}}) akW,c3⟩
 ·exact⟨vG (cs:=jO.cells {o with aN:={o.aN with eB:=.slice a9 hs.length c9}}) (q2.2.keep akW (fun e=>hNT e)),q2.1.steps⟩
 ·exact kP (t':={(t.put i {fo with does:=1,op:=o.dW hs,iG:=t.steps+1})with steps:=t.steps+1}) h1 h2 h3 h4 afS.low afS.fr q2 rfl (O5 (t':={(t.put i {fo with does:=1,op:=o.dW hs,iG:=t.steps+1})with steps:=t.steps+1}) rfl i (fun n hn=>aq hn) (by simp[fB.put]) (by simp[fB.put])) (fun j hj=>by
   by_cases ei:j=i
   ·subst ei;simp only[fB.put,eo];exact⟨fun _=>Or.inr ⟨{HO with eB:=akV.at},rfl,akV⟩,fun e=>by simp at e⟩
   ·simp only[fB.put,aq ei];exact⟨fun tZ=>Or.inl ⟨trivial,trivial,trivial,tZ⟩,(h4 j hj).2⟩)
 ·obtain⟨d,hdd,_⟩:=h1.eN;exact(eL (aA (ae aS W))).tabs hdd q2.2
theorem Xn(o:jO)(hs:List ig)(a9:eO)(c9:Nat)(st:Int):prog.built 72 [(0,.int .i64 1),(1,.agg #[.int .i64 o.what,.int .i64 o.aN.part,.bool o.aN.dt.aG,.string o.aN.dt.host,.int .i64 o.aN.dt.port,.bool o.aN.o.aG,.string o.aN.o.host,.int .i64 o.aN.o.port,.string o.aN.path,.string o.aN.query,.string o.aN.method,.slice a9 hs.length c9,.bool o.aN.f_,.string o.aN.body,.bool o.proxy,.string o.text,.string o.user,.string o.pass,.string o.bS,.int .i64 o.cert,.bool o.all,.int .i64 o.n]),(3,.int .i64 st)]=some (nj {fo with does:=1,op:=o.dW hs,iG:=st} ⟨{o with aN:={o.aN with eB:=.slice a9 hs.length c9}},hs,.pointer none⟩).toArray:=af
theorem yl{P:Program}{ops:Array Oper}{S:World->Prop}{o:Oper}{a:Act}(hg:o.guard=none)(t:TypeId)(parts:Array (Nat×Operand))(ho:o.op=.build t parts)(cells:bT)(vs:List (Nat×Value))
  (he:(parts.map fun(i,x)=>(i,a.eval x)).toList=vs)(hf:P.built t vs=some cells):YieldsIf P ops S o (.agg cells) a :=
 Or.inl ⟨by simp[Region.wanted,hg],fun w _=>by
  unfold execOp;simp only[ho,Sem.run_bind,run_build w t _ cells (by rw[he];exact hf),Result.andThen_ok];rfl⟩
theorem H8(h:df xw a U T t)(n:Int)(o:jO)(hs:List ig){k:Int}(hk:k<1000000)(pz:gF k t)(ho:gM U o hs)(hnh:hs≠ []->∀b,o.aN.eB.ownBlock=some b->b≠T)(hl:hs.length<100000) :
  aB 20 #[.pointer (some ⟨T,0,none⟩),.int .i64 n,.agg o.cells.toArray] U fun e w'=>e=.returned (CN (za t n (o.dW hs)).2)/\df xw a w' T (za t n (o.dW hs)).1/\gW U w':=by
 obtain⟨ah,ch,g_⟩:=ho.h_;obtain⟨x1,mU⟩:∃x1,x1=U.alloc (.cells o.cells.toArray 41):=⟨_,rfl⟩;have dk:Fr aS U x1:=by rw[mU];exact(ae aS U).alloc _
 have k1:x1.heap[U.heap.size]?=some (.cells o.cells.toArray 41 (0,0)):=by rw[mU];exact aC _ _
 have hT:T<U.heap.size:=by
  obtain⟨B,g,sv,sb,h1,_⟩:=h.ex;exact h1.lt
 have h':=h.dm dk;have ln:=O dk;have Ft:=ho.dm dk;unfold za;cases hn:EP n
 ·as_aux_lemma =>
   have HC:=O (Ju x1 T hn);have HH:=O h';rw[eF g_]at mU ⊢;have HX:=O mU;clear hn h pz h' ho Ft g_ dk k1 mU hT;go_enter func20,ntmps20;go_wp2_with fail
   rw[<-HX.o];refine HC.o.mono ?_;rintro e u⟨rfl,rfl⟩;unfold CN;go_wp2;go_ret;exact⟨rfl,HH.o,eL ln.o⟩
 ·obtain⟨i,rfl,hi⟩:=Jt hn;obtain⟨B,g,sv,sb,h1,h2,h3,h4⟩:=h'.ex;have HC:=O (O0 x1 T hi);have c:x1.cell? ⟨T,17+i*45,none⟩=some (.int .i64 (t.tab i).does):=h1.tab i hi 0 _ rfl;have c2:=h1.steps;have fz:=h1.free 287;have e1:((i:Int)).toNat=i:=rfl;rw[az rfl,e1];by_cases hd:(t.tab i).does=0
  ·as_aux_lemma =>
    rw[az hd];rw[hd]at c;have s1:=pz.steps.1;have s2:=pz.steps.2;have q1:=h1.ES (t.steps+1);have HTB:=O (show gW U (x1.setCell ⟨T,287,none⟩ (.int .i64 (t.steps+1)))from by
     obtain⟨d,hdd,_⟩:=h1.eN;exact(eL dk).tabs hdd q1.2)
    have HI:=O (kP (t':={t with steps:=t.steps+1}) h1 h2 h3 h4 h'.low h'.fr q1 rfl (fun j p hp=>hp) (fun j hj=>⟨fun tZ=>Or.inl ⟨rfl,rfl,rfl,tZ⟩,(h4 j hj).2⟩));have HO:=O Ft;have kN:=q1.2.keep k1 (fun e=>by have e':U.heap.size=T:=e;omega);have HK:=O kN;have y11:(x1.setCell ⟨T,287,none⟩ (.int .i64 (t.steps+1))).cell? ⟨U.heap.size,11,none⟩=some (.slice ah hs.length ch):=by
     simp only[World.cell?,kN,eF g_];rfl
    have J2:=O (show oX (x1.setCell ⟨T,287,none⟩ (.int .i64 (t.steps+1))) (.slice ah hs.length ch) hs from by
     have g1:=Ft.eB;rw[g_]at g1;exact dZ.fr1 g1 q1.2 (fun hne b hb=>hnh (fun e=>hne (by rw[e];rfl)) b (by rw[g_];exact hb)))
    have FA:=O (show([]:dh).length+(hs.map ig.cells).length<1000000000 from bH);have HAN:=O (show a.heap.size<=U.heap.size from h.fr.size);have vg:=O (show a.heap.size<=(x1.setCell ⟨T,287,none⟩ (.int .i64 (t.steps+1))).heap.size by
     have u1:=h'.fr.size;have u2:=q1.2.size;omega)
    rw[eF g_]at mU ⊢;have HX:=O mU;have l_:=O g_;clear hn h pz h1 h2 h3 h4 q1 h' ho Ft dk k1 mU kN g_;go_enter func20,ntmps20;go_wp2_with fail
    rw[<-HX.o];refine HC.o.mono ?_;rintro e u⟨rfl,rfl⟩
    go_wp2_with (at_builtin
                 refine AF rfl _ _ rfl a.heap.size _ [] rfl (dB _ _ _ _) _ (hs.map ig.cells) rfl J2.o FA.o vg.o ?_
                 intro v9 w9 vD abe
                 rw[List.nil_append]at vD
                 obtain⟨a9,c9,hv9⟩:=vD.form
                 rw[ai]at hv9
                 subst hv9
                 have Ue:Fr aS _ w9:=fy (ae _ _) abe (fun k hk=>by cases hk)
                 have k9:=Ue.keep HK.o id
                 have z11:w9.cell? ⟨U.heap.size,11,none⟩=some (.slice ah hs.length ch):=by
                   simp only[World.cell?,k9,eF l_.o]
                   rfl
                 have aqw:w9.frozen? ⟨U.heap.size,11,none⟩=false:=by simp[World.frozen?,k9])
    have HI9:=O (HI.o.dm Ue);have hk9:(w9.setCell ⟨U.heap.size,11,none⟩ (.slice a9 hs.length c9)).heap[U.heap.size]?=some (.cells (jO.cells {o with aN:={o.aN with eB:=.slice a9 hs.length c9}}).toArray 41 (0,0)):=by
     rw[cq k9,eF l_.o];rfl
    have Uf:Fr (one U.heap.size) w9 (w9.setCell ⟨U.heap.size,11,none⟩ (.slice a9 hs.length c9)):=(ae (one U.heap.size) _).setCell (p:=⟨U.heap.size,11,none⟩) (fun _=>rfl) _;have abc:=O (HI9.o.aside HAN.o k9 ⟨jw,ag⟩ ag ag ag ag Uf);have abd:=O (vD.fr Uf (fun g hg e=>vD.not k9 ag (by rw[hg];exact ar some e)));have HKW:=O ((HTB.o.trans (eL Ue)).new Uf (ay _))
    clear Ue k9 z11 aqw Uf vD abe y11 HTB HI9 HI J2 vg HK HX HC c c2 fz;generalize w9.setCell ⟨U.heap.size,11,none⟩ (.slice a9 hs.length c9)=W at *
    obtain⟨N,hN⟩:∃N,N=U.heap.size:=⟨_,rfl⟩;rw[<-hN]at hk9 ⊢;have fl:=abb (t:=t) hi abc.o HO.o (show N≠T from ab) hd hk9 abd.o;clear hN hk9 abc abd;obtain⟨X,hX⟩:∃X,X=(nj {fo with does:=1,op:=o.dW hs,iG:=t.steps+1} ⟨{o with aN:={o.aN with eB:=.slice a9 hs.length c9}},hs,.pointer none⟩):=⟨_,rfl⟩;rw[<-hX]at fl;have Hp:X.toArray.all (·.oneCell')=true:=by rw[hX];exact AE _ _ rfl rfl
    have U5:X.length=45:=by rw[hX];rfl
    obtain⟨f1,f2,f3,f4,f5⟩:=fl;have YM:=O (HKW.o.trans f5);have HT:=O (show W.drew.there T (17+i*45) X.toArray.size by rw[aX,U5];exact f2);have Nl:=O Hp;have HXS:=O (show(prog.info? 72).map (·.size)=some X.toArray.size by rw[aX,U5];kernel_rfl);have FO:=O f3;have HR:=O f4;have HXV:=O hX;have F1:=O f1;unfold afR at f1;clear hX Hp U5 f2 f3 f4 f5 HKW
    refine wp_region_held_drew (S:=(fun V=>V.rangeAt N 0 [.int .i64 o.what,.int .i64 o.aN.part,.bool o.aN.dt.aG,.string o.aN.dt.host,.int .i64 o.aN.dt.port,.bool o.aN.o.aG,.string o.aN.o.host,.int .i64 o.aN.o.port,.string o.aN.path,.string o.aN.query,.string o.aN.method,.slice a9 hs.length c9,.bool o.aN.f_,.string o.aN.body,.bool o.proxy,.string o.text,.string o.user,.string o.pass,.string o.bS,.int .i64 o.cert,.bool o.all,.int .i64 o.n]/\V.cell? ⟨T,287,none⟩=some (.int .i64 (t.steps+1)))) af (by exact f1) ?_
    intro zl;refine aU 0 37 rfl ?_;refine aU 2 39 rfl ?_;refine aU 3 40 rfl ?_;refine aU 4 41 rfl ?_
    refine tY 1 38 rfl (fI bD 41 (.tmp 5) rfl N 0 rfl ([.int .i64 o.what,.int .i64 o.aN.part,.bool o.aN.dt.aG,.string o.aN.dt.host,.int .i64 o.aN.dt.port,.bool o.aN.o.aG,.string o.aN.o.host,.int .i64 o.aN.o.port,.string o.aN.path,.string o.aN.query,.string o.aN.method,.slice a9 hs.length c9,.bool o.aN.f_,.string o.aN.body,.bool o.proxy,.string o.text,.string o.user,.string o.pass,.string o.bS,.int .i64 o.cert,.bool o.all,.int .i64 o.n]) _ (fun w hw=>hw.1) underlying41 rfl af) ?_
    try simp only[Act.put,sA,sB,sC]
    refine aU 5 42 rfl ?_
    have YN:prog.built 72 [(0,.int .i64 1),(1,.agg #[.int .i64 o.what,.int .i64 o.aN.part,.bool o.aN.dt.aG,.string o.aN.dt.host,.int .i64 o.aN.dt.port,.bool o.aN.o.aG,.string o.aN.o.host,.int .i64 o.aN.o.port,.string o.aN.path,.string o.aN.query,.string o.aN.method,.slice a9 hs.length c9,.bool o.aN.f_,.string o.aN.body,.bool o.proxy,.string o.text,.string o.user,.string o.pass,.string o.bS,.int .i64 o.cert,.bool o.all,.int .i64 o.n]),(3,.int .i64 (t.steps+1))]=some X.toArray:=by rw[HXV.o];exact Xn o hs a9 c9 (t.steps+1)
    refine tY 6 43 rfl (yl rfl 72 _ rfl X.toArray _ (by simp only[eH,cF,dv];rfl) YN) ?_;clear YN
    try simp only[Act.put,sA,sB,sC]
    refine aU 7 44 rfl ?_;refine eR 8 rfl fun K hK=>?_;refine sx rfl 72 (.tmp 44) (.tmp 43) rfl T (17+i*45) X.toArray rfl rfl HT.o HXS.o Nl.o ?_;refine hK.out _ _ FO.o ?_;intro xF;clear hK zl xF K;refine wpAnyH_done af ?_ _;go_wp2;go_ret;exact⟨rfl,HR.o,YM.o⟩
  ·as_aux_lemma =>
    rw[aq hd];have hd0:¬((t.tab i).does:Int)=0:=ab;have HH:=O h';rw[eF g_]at mU ⊢;have HX:=O mU;clear hn h pz h1 h2 h3 h4 h' ho Ft g_ dk k1 mU hT;go_enter func20,ntmps20;go_wp2_with fail
    rw[<-HX.o];refine HC.o.mono ?_;rintro e u⟨rfl,rfl⟩;go_wp2;go_ret;exact⟨rfl,HH.o,eL ln.o⟩
end
theorem afT(U:World)(T o:Nat){v:Int}(hc:U.cell? ⟨T,o,none⟩=some (.int .i64 v))(hf:U.frozen? ⟨T,o,none⟩=false)(h0:0<=v)(h1:v<1000000) :
  aB 90 #[.pointer (some ⟨T,o,none⟩)] U fun e w'=>e=.returned (.tuple #[])/\w'=U.setCell ⟨T,o,none⟩ (.int .i64 (v+1)):=by
 go_enter func90,ntmps90;go_wp2;go_end0;exact⟨rfl,rfl⟩
def Po(e:TypeId):Prop:=(eX e/\e≠86)/\e≠171/\e≠43/\e≠75/\e≠9
theorem abf:Po 3:=by unfold Po eX;decide
theorem Xo:Po 162:=by unfold Po eX;decide
theorem JB:Po 30:=by unfold Po eX;decide
section
variable {xw : Option (Nat × dD)} {base : Nat} {a U U' : World} {T : Nat} {t : fB}
theorem xQ.far{ws:Nat->Option (Nat×dD)}(h:xQ base U ws)(hf:Fr S U U')(oM:∀n,S n->base<=n)(hk:∀n,S n->∃c e,U.heap[n]?=some (.cells c e (0,0))/\eX e/\e≠86/\e≠9):xQ base U' ws:=by
 obtain⟨pv,h1,h2⟩:=h;refine⟨pv,fun i B x hi=>(h1 i B x hi).fr hf ?_ (fun k IX e=>?_),h2⟩
 ·intro k hs _;obtain⟨c',e',q1,q2⟩:=hk k hs;exact⟨oM k hs,fun c f e=>by rw[q1]at e;cases e;exact q2.2.2 rfl⟩
 ·obtain⟨c',e',q1,q2⟩:=hk k e;exact(h1 i B x hi).xc q1 q2.1 q2.2.1 IX
theorem df.far(h:df xw a U T t)(hf:Fr S U U')(oM:∀n,S n->a.heap.size<=n)(hk:∀n,S n->∃c e,U.heap[n]?=some (.cells c e (0,0))/\Po e):df xw a U' T t:=by
 obtain⟨B,g,sv,sb,g1,g2,g3,g4⟩:=h.ex;obtain⟨d,hd,_⟩:=g1.eN;have hT:¬S T:=fun e=>by
  obtain⟨c,e',h1,h2⟩:=hk T e;rw[hd]at h1;cases h1;exact h2.2.2.2.1 rfl
 have ho:∀ {v:jO×List ig} {o:iE},jZ a.heap.size U v o->jZ a.heap.size U' v o:=fun q=>q.rows (q.own.fr hf fun b hb hs=>by
  obtain⟨c,e',h1,h2⟩:=hk b hs;exact q.own.not h1 h2.2.1 hb)
 refine⟨⟨B,g,sv,sb,g1.fr hf hT,g2.far hf oM (fun n hn=>?_),?_,fun m hm=>⟨fun hd=>ho ((g4 m hm).1 hd),(g4 m hm).2⟩⟩,h.low,h.fr.step hf fun k hk e=>?_⟩
 ·obtain⟨c,e,h1,h2⟩:=hk n hn;exact⟨c,e,h1,h2.1.1,h2.1.2,h2.2.2.2.2⟩
 ·obtain⟨es,e1,e2,e3⟩:=g3;exact⟨es,e1,e2.fr hf fun b hb hs=>by
   obtain⟨c,e',h1,h2⟩:=hk b hs;exact e2.not h1 h2.2.2.1 hb,fun x hx=>ho (e3 x hx)⟩
 ·have:=oM k e;omega
end
def vY(n:Int):aZ:=[.int .i64 n]
theorem MK:(prog.info? 3).map (fun i=>(i.zero,i.size,i.bytes))=some (some (.int .i64 0),1,8):=af
def JC(base:Nat)(U:World)(V:Nat)(v:Value)(l:List Int)(e:Ending)(w':World):Prop :=
 e=.returned (.tuple #[])/\∃v',w'.heap[V]?=some (.cells #[v'] 162 (0,0))/\OwnRows base 3 1 w' v' (l.map vY)/\Fr (fun k=>k=V\/own v k) U w'
theorem QW{base:Nat}{W:World}{V cap:Nat}{l:List Int}{x:Int}(hg:W.ownsRow base 3 1 (.slice (some ⟨g,0,none⟩) (l.length+1) cap) (l.length+1) ((l.map vY).flatten++[.int .i64 x]))(hV:W.heap[V]?=some (.cells #[v] 162 (0,0)))(hF:Fr (own v) U W) :
  JC base U V v (l++[x]) (.returned (.tuple #[])) (W.setCell ⟨V,0,none⟩ (.slice (some ⟨g,0,none⟩) (l.length+1) cap)):=by
 have ho:OwnRows base 3 1 W (.slice (some ⟨g,0,none⟩) (l.length+1) cap) ((l++[x]).map vY):=by
  refine⟨fun y hy=>?_,?_⟩
  ·obtain⟨n,_,rfl⟩:=bZ.1 hy;exact⟨rfl,fun u hu=>by rcases cH.1 hu with rfl;rfl⟩
  ·have e:((l++[x]).map vY).length=l.length+1:=aR;have e2:((l++[x]).map vY).flatten=(l.map vY).flatten++[.int .i64 x]:=by simp[vY]
   rw[e,e2];exact hg
 have hs:Fr (one V) W (W.setCell ⟨V,0,none⟩ (.slice (some ⟨g,0,none⟩) (l.length+1) cap)):=(ae (one V) W).setCell (p:=⟨V,0,none⟩) (fun _=>rfl) _;refine⟨rfl,_,cq hV 0 _,ho.fr hs fun b hb e=>?_,((hF.mono fun _ _ h=>Or.inr h).step hs fun k hk e=>Or.inl e)⟩;exact ho.not hV ag (by rw[hb];exact ar some e)
section
variable {base : Nat} {U : World} {T o V : Nat} {v : Value} {l : List Int} {x : Int}
theorem afV(hV:U.heap[V]?=some (.cells #[v] 162 (0,0)))(hx:U.cell? ⟨T,o,none⟩=some (.int .i64 x))(cW:OwnRows base 3 1 U v (l.map vY))(hb:base<=U.heap.size)(hl:l.length<1000) :
  aB 85 #[.pointer (some ⟨T,o,none⟩),.pointer (some ⟨V,0,none⟩)] U (JC base U V v (l++[x])):=by
 obtain⟨i0,qN,pD,ll,lF⟩:=info_parts MK;obtain⟨av,cv,hv⟩:=cW.form;rw[ai]at hv;subst hv;have d1:U.cell? ⟨V,0,none⟩=some (.slice av l.length cv):=by simp[World.cell?,hV]
 have e1:U.frozen? ⟨V,0,none⟩=false:=by simp[World.frozen?,hV]
 have hVl:=bq hV;have hne:(Value.slice av l.length cv).ownBlock≠some V:=cW.not hV ag;have HV:=O hV;have HO:=O (show U.ownsRow base 3 1 (.slice av l.length cv) l.length (l.map vY).flatten by
  have h:=cW.2
  rwa [ai]at h)
 clear hV cW;go_enter func85,ntmps85
 go_region_law ((with_reducible refine mX ⟨some 8,_,_,_,_,_⟩ ?_)
                refine step_append_lies _ bD _ _ _ bD base 3 i0 _ 1 8 underlying162 qN pD ll lF rfl ab (.slice av l.length cv) l.length _ bD (by have J7:=HO.o;repeat(first|exact J7|apply World.ownsRow.alloc|apply World.ownsRow.drew)) ⟨U.heap.size,0,none⟩ 1 1 [.int .i64 x] bD bD (kY U [.int .i64 x] _) (by intro u hu;rcases cH.1 hu with rfl;rfl) ab ft ab bH (U.heap.size+1) aR ?_
                intro gg cap w4 fg jJ dS LH
                have j6:Fr (own (.slice av l.length cv)) U w4:=fy (by repeat(first|exact ae _ _|apply aA|apply bB)) jJ (fun _ hk _=>hk)
                have b4:=j6.keep HV.o (fun e=>hne e)
                have k4:w4.cell? ⟨V,0,none⟩=some (.slice av l.length cv):=by simp[World.cell?,b4]
                have e4:w4.frozen? ⟨V,0,none⟩=false:=by simp[World.frozen?,b4])
 all_goals
  go_end0;exact QW fg b4 j6
theorem afW(hV:U.heap[V]?=some (.cells #[v] 162 (0,0)))(hx:U.cell? ⟨T,o,none⟩=some (.int .i64 x))(cW:OwnRows base 3 1 U v (l.map vY))(hb:base<=U.heap.size)(hl:l.length<1000) :
  aB 86 #[.pointer (some ⟨T,o,none⟩),.pointer (some ⟨V,0,none⟩)] U (JC base U V v (l++[x])):=by
 obtain⟨i0,qN,pD,ll,lF⟩:=info_parts MK;obtain⟨av,cv,hv⟩:=cW.form;rw[ai]at hv;subst hv;have d1:U.cell? ⟨V,0,none⟩=some (.slice av l.length cv):=by simp[World.cell?,hV]
 have e1:U.frozen? ⟨V,0,none⟩=false:=by simp[World.frozen?,hV]
 have hVl:=bq hV;have hne:(Value.slice av l.length cv).ownBlock≠some V:=cW.not hV ag;have HV:=O hV;have HO:=O (show U.ownsRow base 3 1 (.slice av l.length cv) l.length (l.map vY).flatten by
  have h:=cW.2
  rwa [ai]at h)
 clear hV cW;go_enter func86,ntmps86
 go_region_law ((with_reducible refine mX ⟨some 8,_,_,_,_,_⟩ ?_)
                refine step_append_lies _ bD _ _ _ bD base 3 i0 _ 1 8 underlying162 qN pD ll lF rfl ab (.slice av l.length cv) l.length _ bD (by have J7:=HO.o;repeat(first|exact J7|apply World.ownsRow.alloc|apply World.ownsRow.drew)) ⟨U.heap.size,0,none⟩ 1 1 [.int .i64 x] bD bD (kY U [.int .i64 x] _) (by intro u hu;rcases cH.1 hu with rfl;rfl) ab ft ab bH (U.heap.size+1) aR ?_
                intro gg cap w4 fg jJ dS LH
                have j6:Fr (own (.slice av l.length cv)) U w4:=fy (by repeat(first|exact ae _ _|apply aA|apply bB)) jJ (fun _ hk _=>hk)
                have b4:=j6.keep HV.o (fun e=>hne e)
                have k4:w4.cell? ⟨V,0,none⟩=some (.slice av l.length cv):=by simp[World.cell?,b4]
                have e4:w4.frozen? ⟨V,0,none⟩=false:=by simp[World.frozen?,b4])
 all_goals
  go_end0;exact QW fg b4 j6
end
def zc(o:iE)(k:Nat):List (Nat×Nat):=([0,1,2,3].take k).filterMap fun i=>if(cO o).1.testBit i then some (if i=3 then 0 else o.part.toNat,i)else none
theorem AG(hk:k<4)(hb:(cO o).1.testBit k=false):zc o (k+1)=zc o k:=by
 rcases(show k=0\/k=1\/k=2\/k=3 from ab)with rfl|rfl|rfl|rfl<;>simp[zc,List.filterMap_cons,hb]
theorem ML(hk:k<4)(hb:(cO o).1.testBit k=true):zc o (k+1)=zc o k++[(if k=3 then 0 else o.part.toNat,k)]:=by
 rcases(show k=0\/k=1\/k=2\/k=3 from ab)with rfl|rfl|rfl|rfl
 ·simp[zc,hb]
 ·have e:∀f:Nat->Option (Nat×Nat),([0,1]:List Nat).filterMap f=[0].filterMap f++[1].filterMap f:=fun f=>jr (l:=[0]) (l':=[1]);simp only[zc,List.take];rw[e];simp[hb]
 ·have e:∀f:Nat->Option (Nat×Nat),([0,1,2]:List Nat).filterMap f=[0,1].filterMap f++[2].filterMap f:=fun f=>jr (l:=[0,1]) (l':=[2]);simp only[zc,List.take];rw[e];simp[hb]
 ·have e:∀f:Nat->Option (Nat×Nat),([0,1,2,3]:List Nat).filterMap f=[0,1,2].filterMap f++[3].filterMap f:=fun f=>jr (l:=[0,1,2]) (l':=[3]);simp only[zc,List.take];rw[e];simp[hb]
theorem Ti(o:iE)(k:Nat):∃r,mD o=zc o k++r:=⟨([0,1,2,3].drop k).filterMap fun i=>if(cO o).1.testBit i then some (if i=3 then 0 else o.part.toNat,i)else none,by
 unfold zc mD;rw[<-jr,fS]⟩
theorem Xq(hk:k<4)(hb:(cO o).1.testBit k=true):∃r,mD o=zc o k++(if k=3 then 0 else o.part.toNat,k) :: r:=by
 obtain⟨r,hr⟩:=Ti o (k+1);exact⟨r,by rw[hr,ML hk hb,cN,List.singleton_append]⟩
theorem Pp(o:iE):(cO o).1=0\/(((cO o).1=1\/(cO o).1=4\/(cO o).1=7\/(cO o).1=8\/(cO o).1=10)/\o.right=true):=by
 cases hr:o.right
 ·exact Or.inl (by rw[uB hr])
 ·unfold cO;rw[hr];simp only[eo]
  repeat' split
  all_goals simp
def Xr(R:List (Nat×Nat)->World->Prop)(o:iE)(bx:Nat)(X:bT)(i:Value)(wr:World):Prop :=
 ∃k:Nat,k<=4/\i=.int .i64 k/\R (zc o k) wr/\wr.heap[bx]?=some (.cells X 41 (0,0))
def vq(R:List (Nat×Nat)->World->Prop)(o:iE)(T g:Nat)(cap:bT):Prop :=
 ∀d c r,mD o=d++c :: r->∀V:World,R d V->aB g (#[.pointer (some ⟨T,1+c.1*4+c.2,none⟩)]++cap) V fun e w'=>e=.returned (.tuple #[])/\R (d++[c]) w'/\∀(n:Nat) (k:bT),V.heap[n]?=some (.cells k 41 (0,0))->w'.heap[n]?=some (.cells k 41 (0,0))
theorem Xs{R:List (Nat×Nat)->World->Prop}{cap:bT}{bx:Nat}{X:bT}(jx:vq R o T g cap)(hk:k<4)(hb:(cO o).1.testBit k=true){p:Nat}(hp:(if k=3 then 0 else o.part.toNat)=p)(hR:R (zc o k) V)(qB:V.heap[bx]?=some (.cells X 41 (0,0))) :
  aB g (#[.pointer (some ⟨T,1+p*4+k,none⟩)]++cap) V fun e w'=>e=.returned (.tuple #[])/\R (zc o (k+1)) w'/\w'.heap[bx]?=some (.cells X 41 (0,0)):=by
 obtain⟨r,hr⟩:=Xq hk hb;rw[hp]at hr;refine(jx _ _ _ hr V hR).mono ?_;rintro e w'⟨h1,h2,h3⟩;rw[ML hk hb,hp];exact⟨h1,h2,h3 _ _ qB⟩
theorem Tj(U:World)(T:Nat)(o:jO)(hs:List ig)(g:Nat)(cap:bT)(_eg:∀args w,(callFunc g args).run prog w=.ok (.enter g args) w)(R:List (Nat×Nat)->World->Prop)(h0:R [] U)(cP:∀d V V',R d V->Fr aS V V'->R d V')(jx:vq R (o.dW hs) T g cap)(ho:gM U o hs)(hc:(cO (o.dW hs)).1=0) :
  aB 84 #[.pointer (some ⟨T,0,none⟩),.agg o.cells.toArray,.func (.func g) #[] cap] U fun e w'=>e=.returned (.tuple #[])/\R (mD (o.dW hs)) w':=by
 obtain⟨ah,ch,g_⟩:=ho.h_;obtain⟨x1,mU⟩:∃x1,x1=U.alloc (.cells o.cells.toArray 41):=⟨_,rfl⟩;have dk:Fr aS U x1:=by rw[mU];exact(ae aS U).alloc _
 have HK:=O (show x1.heap[U.heap.size]?=some (.cells o.cells.toArray 41 (0,0))by rw[mU];exact aC _ _);have HC:=O (BN x1 o hs (ho.dm dk));have HR1:=O (cP _ _ _ h0 dk);have lO:=O jx;have qD:=O cP;rw[hc]at HC;have xO:=O hc;rw[eF g_]at mU HK HC ⊢;have HX:=O mU;have l_:=O g_;clear g_ dk mU jx cP h0 ho hc;go_enter func84,ntmps84
 have vX:=O (aC U (.cells #[.int .i64 o.what,.int .i64 o.aN.part,.bool o.aN.dt.aG,.string o.aN.dt.host,.int .i64 o.aN.dt.port,.bool o.aN.o.aG,.string o.aN.o.host,.int .i64 o.aN.o.port,.string o.aN.path,.string o.aN.query,.string o.aN.method,.slice ah hs.length ch,.bool o.aN.f_,.string o.aN.body,.bool o.proxy,.string o.text,.string o.user,.string o.pass,.string o.bS,.int .i64 o.cert,.bool o.all,.int .i64 o.n] 41))
 go_wp2_with (first|((with_reducible refine dr 11 ?_);refine aI rfl 41 (.tmp 4) rfl U.heap.size rfl _ #[.int .i64 o.what,.int .i64 o.aN.part,.bool o.aN.dt.aG,.string o.aN.dt.host,.int .i64 o.aN.dt.port,.bool o.aN.o.aG,.string o.aN.o.host,.int .i64 o.aN.o.port,.string o.aN.path,.string o.aN.query,.string o.aN.method,.slice ah hs.length ch,.bool o.aN.f_,.string o.aN.body,.bool o.proxy,.string o.text,.string o.user,.string o.pass,.string o.bS,.int .i64 o.cert,.bool o.all,.int .i64 o.n] (0,0) _ vX.o underlying41 rfl af ?_)|fail)
 rw[<-HX.o];refine HC.o.mono ?_;rintro e u⟨rfl,hu⟩;have NH:=O (qD.o _ _ _ HR1.o hu);have ra:=O (hu.keep HK.o id);clear hu HR1 HK HC HX vX;generalize U.heap.size=bx at *
 go_wp2
 go_loopw[15] (Xr R (o.dW hs) bx #[.int .i64 o.what,.int .i64 o.aN.part,.bool o.aN.dt.aG,.string o.aN.dt.host,.int .i64 o.aN.dt.port,.bool o.aN.o.aG,.string o.aN.o.host,.int .i64 o.aN.o.port,.string o.aN.path,.string o.aN.query,.string o.aN.method,.slice ah hs.length ch,.bool o.aN.f_,.string o.aN.body,.bool o.proxy,.string o.text,.string o.user,.string o.pass,.string o.bS,.int .i64 o.cert,.bool o.all,.int .i64 o.n]) (fun i _=>4-(intOf i).toNat)
 case atStart=>exact⟨0,aL _,rfl,NH.o,ra.o⟩
 case round =>
  obtain⟨k,hk,rfl,hR,qB⟩:=hrel;clear NH ra;have HR:=O hR;have HB:=O qB;clear hR qB;rcases(show k=0\/k=1\/k=2\/k=3\/k=4 from ab)with rfl|rfl|rfl|rfl|rfl
  ·have HN:=O (AG (o:=o.dW hs) (k:=0) ag (by rw[xO.o];decide));go_wp2;go_roundw
   case rel=>exact⟨1,ab,bg,by rw[HN.o];exact HR.o,HB.o⟩
   case measure=>simp[intOf]
  ·have HN:=O (AG (o:=o.dW hs) (k:=1) ag (by rw[xO.o];decide));go_wp2;go_roundw
   case rel=>exact⟨2,ab,bg,by rw[HN.o];exact HR.o,HB.o⟩
   case measure=>simp[intOf]
  ·have HN:=O (AG (o:=o.dW hs) (k:=2) ag (by rw[xO.o];decide));go_wp2;go_roundw
   case rel=>exact⟨3,ab,bg,by rw[HN.o];exact HR.o,HB.o⟩
   case measure=>simp[intOf]
  ·have HN:=O (AG (o:=o.dW hs) (k:=3) ag (by rw[xO.o];decide));go_wp2;go_roundw
   case rel=>exact⟨4,ab,bg,by rw[HN.o];exact HR.o,HB.o⟩
   case measure=>simp[intOf]
  ·go_wp2;go_end0;exact⟨rfl,HR.o⟩
theorem Pq(U:World)(T:Nat)(o:jO)(hs:List ig)(g:Nat)(cap:bT)(eg:∀args w,(callFunc g args).run prog w=.ok (.enter g args) w)(R:List (Nat×Nat)->World->Prop)(h0:R [] U)(cP:∀d V V',R d V->Fr aS V V'->R d V')(jx:vq R (o.dW hs) T g cap)(ho:gM U o hs)(hc:(cO (o.dW hs)).1=1\/(cO (o.dW hs)).1=4\/(cO (o.dW hs)).1=7\/(cO (o.dW hs)).1=8\/(cO (o.dW hs)).1=10)(hr:(o.dW hs).right=true) :
  aB 84 #[.pointer (some ⟨T,0,none⟩),.agg o.cells.toArray,.func (.func g) #[] cap] U fun e w'=>e=.returned (.tuple #[])/\R (mD (o.dW hs)) w':=by
 rcases hc with hc|hc|hc|hc|hc
 all_goals
  obtain⟨ah,ch,g_⟩:=ho.h_;obtain⟨x1,mU⟩:∃x1,x1=U.alloc (.cells o.cells.toArray 41):=⟨_,rfl⟩;have dk:Fr aS U x1:=by rw[mU];exact(ae aS U).alloc _
  have HK:=O (show x1.heap[U.heap.size]?=some (.cells o.cells.toArray 41 (0,0))by rw[mU];exact aC _ _);have HC:=O (BN x1 o hs (ho.dm dk));have HR1:=O (cP _ _ _ h0 dk);have lO:=O jx;have qD:=O cP;rw[hc]at HC;have xO:=O hc;obtain⟨p0,p4⟩:=iX hr;obtain⟨p,hp⟩:∃p:Nat,o.aN.part=(p:Int):=⟨o.aN.part.toNat,by have:(o.dW hs).part=o.aN.part:=rfl;omega⟩;have hp4:p<4:=by have:(o.dW hs).part=o.aN.part:=rfl;omega
  have HP:=O hp;have HPT:=O (show(o.dW hs).part.toNat=p by have:(o.dW hs).part=o.aN.part:=rfl;omega);have q1:(p:Int)<4:=ab;have q2:(0:Int)<=(p:Int):=ab;have q3:¬(p:Int)<0:=ab;have q4:¬(4:Int)<=(p:Int):=ab;rw[eF g_]at mU HK HC ⊢;have HX:=O mU;have l_:=O g_;clear g_ dk mU jx cP h0 ho hc hr p0 p4 hp;go_enter func84,ntmps84
  have vX:=O (aC U (.cells #[.int .i64 o.what,.int .i64 o.aN.part,.bool o.aN.dt.aG,.string o.aN.dt.host,.int .i64 o.aN.dt.port,.bool o.aN.o.aG,.string o.aN.o.host,.int .i64 o.aN.o.port,.string o.aN.path,.string o.aN.query,.string o.aN.method,.slice ah hs.length ch,.bool o.aN.f_,.string o.aN.body,.bool o.proxy,.string o.text,.string o.user,.string o.pass,.string o.bS,.int .i64 o.cert,.bool o.all,.int .i64 o.n] 41))
  go_wp2_with (first|((with_reducible refine dr 11 ?_);refine aI rfl 41 (.tmp 4) rfl U.heap.size rfl _ #[.int .i64 o.what,.int .i64 o.aN.part,.bool o.aN.dt.aG,.string o.aN.dt.host,.int .i64 o.aN.dt.port,.bool o.aN.o.aG,.string o.aN.o.host,.int .i64 o.aN.o.port,.string o.aN.path,.string o.aN.query,.string o.aN.method,.slice ah hs.length ch,.bool o.aN.f_,.string o.aN.body,.bool o.proxy,.string o.text,.string o.user,.string o.pass,.string o.bS,.int .i64 o.cert,.bool o.all,.int .i64 o.n] (0,0) _ vX.o underlying41 rfl af ?_)|fail)
  rw[<-HX.o];refine HC.o.mono ?_;rintro e u⟨rfl,hu⟩;have NH:=O (qD.o _ _ _ HR1.o hu);have ra:=O (hu.keep HK.o id);clear hu HR1 HK HC HX vX;generalize U.heap.size=bx at *
  go_wp2
  go_loopw[15] (Xr R (o.dW hs) bx #[.int .i64 o.what,.int .i64 o.aN.part,.bool o.aN.dt.aG,.string o.aN.dt.host,.int .i64 o.aN.dt.port,.bool o.aN.o.aG,.string o.aN.o.host,.int .i64 o.aN.o.port,.string o.aN.path,.string o.aN.query,.string o.aN.method,.slice ah hs.length ch,.bool o.aN.f_,.string o.aN.body,.bool o.proxy,.string o.text,.string o.user,.string o.pass,.string o.bS,.int .i64 o.cert,.bool o.all,.int .i64 o.n]) (fun i _=>4-(intOf i).toNat)
  case atStart=>exact⟨0,aL _,rfl,NH.o,ra.o⟩
  case round =>
   obtain⟨k,hk,rfl,hR,qB⟩:=hrel;clear NH ra;have HR:=O hR;have HB:=O qB;clear hR qB;have c1:wr.cell? ⟨bx,1,none⟩=some (.int .i64 p):=by simp[World.cell?,HB.o,HP.o]
   by_cases Ld:k<4
   ·cases hb:(cO (o.dW hs)).1.testBit k
    ·have HN:=O (AG Ld hb);rw[xO.o]at hb;rcases(show k=0\/k=1\/k=2\/k=3 from ab)with rfl|rfl|rfl|rfl
     all_goals first
      |exact absurd hb ag
      |(clear hb
        go_wp2
        go_roundw
        case rel=>first|exact⟨1,ab,bg,by rw[HN.o];exact HR.o,HB.o⟩|exact⟨2,ab,bg,by rw[HN.o];exact HR.o,HB.o⟩|exact⟨3,ab,bg,by rw[HN.o];exact HR.o,HB.o⟩|exact⟨4,ab,bg,by rw[HN.o];exact HR.o,HB.o⟩
        case measure=>simp[intOf])
    ·have hq:∃q:Nat,q=(if k=3 then 0 else(o.dW hs).part.toNat):=⟨_,rfl⟩;obtain⟨q,hq⟩:=hq;have akY:=O (Xs (p:=q) lO.o Ld hb hq.symm HR.o HB.o);rw[HPT.o]at hq;rw[xO.o]at hb;rcases(show k=0\/k=1\/k=2\/k=3 from ab)with rfl|rfl|rfl|rfl
     all_goals first
      |exact absurd hb ag
      |(clear hb HR HB
        first|rw[aq ag]at hq|rw[az rfl]at hq
        subst hq
        go_wp2_with fail
        refine akY.o.mono ?_
        rintro e w1⟨rfl,g1,g2⟩
        go_wp2
        go_roundw
        case rel=>first|exact⟨1,ab,bg,g1,g2⟩|exact⟨2,ab,bg,g1,g2⟩|exact⟨3,ab,bg,g1,g2⟩|exact⟨4,ab,bg,g1,g2⟩
        case measure=>simp[intOf])
   ·obtain rfl:k=4:=ab;go_wp2;go_end0;exact⟨rfl,HR.o⟩
theorem xf(U:World)(T:Nat)(o:jO)(hs:List ig)(g:Nat)(cap:bT)(eg:∀args w,(callFunc g args).run prog w=.ok (.enter g args) w)(R:List (Nat×Nat)->World->Prop)(h0:R [] U)(cP:∀d V V',R d V->Fr aS V V'->R d V')(jx:vq R (o.dW hs) T g cap)(ho:gM U o hs) :
  aB 84 #[.pointer (some ⟨T,0,none⟩),.agg o.cells.toArray,.func (.func g) #[] cap] U fun e w'=>e=.returned (.tuple #[])/\R (mD (o.dW hs)) w':=by
 rcases Pp (o.dW hs)with hc|⟨hc|hc|hc|hc|hc,hr⟩
 ·exact Tj U T o hs g cap eg R h0 cP jx ho hc
 all_goals exact Pq U T o hs g cap eg R h0 cP jx ho (by simp[hc]) hr
theorem jB{P:Program}{fn:Func}{p u v:Tmp}{ty:TypeId}(h:fn.results= #[.cell p ty,.tmp u,.tmp v])(tmps:bT)(w:World)(g:Nat)(t:TypeId)(cs:bT)(fr:Nat×Nat)(d:TypeDesc)
  (hp:tmps.getD p undef=.pointer (some ⟨g,0,none⟩))(hg:w.heap[g]?=some (.cells cs t fr))
  (hu:P.underlying ty=some d)(hd:(match d with| .struct _| .array _ _=>true|_=>false)=true)(hi:(P.info? ty).map (·.size)=some cs.size) :
  (results fn tmps).run P w=.ok (.tuple #[.agg cs,tmps.getD u undef,tmps.getD v undef]) w:=by
 have hp':tmps[p]?.getD undef=.pointer (some ⟨g,0,none⟩):=by simpa using hp
 simp[results,h,hp',asAddr,run_loadVar_row w g t ty cs fr d hg hu hd hi,Result.andThen]
def Tk(n:Nat)(o:jO)(ah:eO)(nh ch:Nat)(r:kt)(iG fin:Int):aZ:=[.int .i64 n,.int .i64 o.what,.int .i64 o.aN.part,.bool o.aN.dt.aG,.string o.aN.dt.host,.int .i64 o.aN.dt.port,.bool o.aN.o.aG,.string o.aN.o.host,.int .i64 o.aN.o.port,.string o.aN.path,.string o.aN.query,.string o.aN.method,.slice ah nh ch,.bool o.aN.f_,.string o.aN.body,.bool o.proxy,.string o.text,.string o.user,.string o.pass,.string o.bS,.int .i64 o.cert,.bool o.all,.int .i64 o.n,.int .i64 r.what,.string r.head,.int .i64 r.cert,.int .i64 iG,.int .i64 fin]
theorem E0{n:Nat}{o:jO}{hs:List ig}(h:o.aN.eB=.slice ah hs.length ch)(op:iE)(r:kt)(iG fin:Int):Fy (⟨n,op,r,iG,fin⟩,(o,hs))=Tk n o ah hs.length ch r iG fin:=by
 unfold Fy jO.cells gC.cells;rw[h];rfl
theorem Xt{o:jO}{nh:Nat}(h:o.aN.eB=.slice ah nh ch):o.cells=[.int .i64 o.what,.int .i64 o.aN.part,.bool o.aN.dt.aG,.string o.aN.dt.host,.int .i64 o.aN.dt.port,.bool o.aN.o.aG,.string o.aN.o.host,.int .i64 o.aN.o.port,.string o.aN.path,.string o.aN.query,.string o.aN.method,.slice ah nh ch,.bool o.aN.f_,.string o.aN.body,.bool o.proxy,.string o.text,.string o.user,.string o.pass,.string o.bS,.int .i64 o.cert,.bool o.all,.int .i64 o.n]:=by
 unfold jO.cells gC.cells;rw[h];rfl
theorem Dc(n:Nat)(o:jO)(ah:eO)(nh ch:Nat)(r:kt)(iG fin:Int):∀u∈Tk n o ah nh ch r iG fin,u.oneCell'=true:=by
 intro u hu;unfold Tk at hu;simp only[bC,cA,dY]at hu;rcases hu with rfl|rfl|rfl|rfl|rfl|rfl|rfl|rfl|rfl|rfl|rfl|rfl|rfl|rfl|rfl|rfl|rfl|rfl|rfl|rfl|rfl|rfl|rfl|rfl|rfl|rfl|rfl|rfl<;>rfl
theorem abg(n:Nat)(o:jO)(ah:eO)(nh ch:Nat)(r:kt)(iG fin:Int):prog.built 43 [(0,.int .i64 n),(1,.agg #[.int .i64 o.what,.int .i64 o.aN.part,.bool o.aN.dt.aG,.string o.aN.dt.host,.int .i64 o.aN.dt.port,.bool o.aN.o.aG,.string o.aN.o.host,.int .i64 o.aN.o.port,.string o.aN.path,.string o.aN.query,.string o.aN.method,.slice ah nh ch,.bool o.aN.f_,.string o.aN.body,.bool o.proxy,.string o.text,.string o.user,.string o.pass,.string o.bS,.int .i64 o.cert,.bool o.all,.int .i64 o.n]),(2,.agg #[.int .i64 r.what,.string r.head,.int .i64 r.cert]),(3,.int .i64 iG),(4,.int .i64 fin)]=some (Tk n o ah nh ch r iG fin).toArray:=af
def xg:bT:= #[.int .i64 0,.int .i64 0,.int .i64 0,.bool false,.string ⟨#[]⟩,.int .i64 0,.bool false,.string ⟨#[]⟩,.int .i64 0,.string ⟨#[]⟩,.string ⟨#[]⟩,.string ⟨#[]⟩,.slice none 0 0,.bool false,.string ⟨#[]⟩,.bool false,.string ⟨#[]⟩,.string ⟨#[]⟩,.string ⟨#[]⟩,.string ⟨#[]⟩,.int .i64 0,.bool false,.int .i64 0,.int .i64 0,.string ⟨#[]⟩,.int .i64 0,.int .i64 0,.int .i64 0]
theorem JD:(prog.info? 43).map (fun i=>(i.zero,i.size,i.bytes))=some (some (.agg xg),28,328):=af
theorem Pr(n:Nat)(o:jO)(ah:eO)(nh ch:Nat)(r:kt)(iG fin:Int):Instr.fill (fun i=>some (i*28,28)) ((Array.range (1*28)).map ((Value.agg xg).cells[· %(Value.agg xg).cells.size]!)) [(0,.agg (Tk n o ah nh ch r iG fin).toArray)]=some (Tk n o ah nh ch r iG fin).toArray:=af
theorem vH{P:Program}{ops:Array Oper}{o:Oper}{a:Act}{w:World}{K:Act->World->Prop}{Q:Exit->Act->World->Prop}{E:Prop}(zm:o.guard=none)(t e:TypeId)(len:Nat)(parts:Array (Nat×Operand))(ho:o.op=.buildSlice t len parts)
  (cells:bT)(ie:TypeInfo)(z:Value)(vs:List (Nat×Value))(he:(parts.map fun(i,x)=>(i,a.eval x)).toList=vs)
  (hu:P.underlying t=some (.slice e))(Xu:P.info? e=some ie)(hz:ie.zero=some z)(Iz:¬len*ie.size>2^24)(qq:¬len*ie.size=0)
  (hf:Instr.fill (fun i=>some (i*ie.size,ie.size)) ((Array.range (len*ie.size)).map (z.cells[· %z.cells.size]!)) vs=some cells)
  (h:K (a.put o.dst (.slice (some ⟨w.heap.size,0,none⟩) len len)) (w.alloc (.cells cells e))):if Region.wanted o (yielded ops a.tmps)=true then Oper.wp P o a w K Q else E:=by
 have hw:Region.wanted o (yielded ops a.tmps)=true:=by simp[Region.wanted,zm]
 rw[az hw];exact wp_buildSlice t e len parts ho cells ie z hu Xu hz Iz qq (by rw[he];exact hf) h
theorem j5{b o:Nat}{p q r:aZ}(h:U.rangeAt b o (p++(q++r))):U.rangeAt b (o+p.length) q:=fun j v hj=>by
 have hl:=(List.getElem?_eq_some_iff.1 hj).1;have:=h (p.length+j) v (by rw[List.getElem?_append_right ab,show p.length+j-p.length=j from ab,List.getElem?_append_left hl];exact hj)
 rwa [<-Nat.add_assoc]at this
theorem zd{o:Nat}(h:U.rangeAt T o cs)(hk:o+cs.length<=k):(U.setCell ⟨T,k,none⟩ v).rangeAt T o cs:=cg h T k [v] (Or.inr (Or.inl hk))
section
variable {xw : Option (Nat × dD)} {a U U' : World} {T : Nat} {t : fB}
def abh(o:jO)(ah:eO)(nh ch:Nat)(r:kt)(iG steps:Int)(i T R:Nat)(V:World):Prop:=V.rangeAt T (17+i*45+1) [.int .i64 o.what,.int .i64 o.aN.part,.bool o.aN.dt.aG,.string o.aN.dt.host,.int .i64 o.aN.dt.port,.bool o.aN.o.aG,.string o.aN.o.host,.int .i64 o.aN.o.port,.string o.aN.path,.string o.aN.query,.string o.aN.method,.slice ah nh ch,.bool o.aN.f_,.string o.aN.body,.bool o.proxy,.string o.text,.string o.user,.string o.pass,.string o.bS,.int .i64 o.cert,.bool o.all,.int .i64 o.n]/\V.rangeAt R 0 [.int .i64 r.what,.string r.head,.int .i64 r.cert]/\V.cell? ⟨T,17+i*45+24,none⟩=some (.int .i64 iG)/\V.cell? ⟨T,287,none⟩=some (.int .i64 steps)
theorem gD.abh{B:Nat}{g:Nat->rC}{sv:Value}(h:gD U T B g sv t){i:Nat}(hi:i<6){ah:eO}{nh ch R:Nat}{r:kt}(hh:(g i).o.aN.eB=.slice ah nh ch)(hR:U.heap[R]?=some (.cells (pC r).toArray 30 (0,0))) :
  abh (g i).o ah nh ch r (t.tab i).iG t.steps i T R U:=by
 refine⟨?_,vG (cs:=pC r) hR,h.tab i hi 24 _ rfl,h.steps⟩;have:=j5 (p:=[.int .i64 (t.tab i).does]) (q:=(g i).o.cells) (h.tab i hi);rw[Xt hh]at this;exact this
theorem gD.more{B:Nat}{g:Nat->rC}{sv v':Value}{sb:Nat->Nat}{es:List (ua×(jO×List ig))}(h1:gD U T B g sv t)(h2:xQ a.heap.size U (oL xw B sb t))(Gd:es.map (·.1)=t.cU)(mE:OwnRows a.heap.size 43 28 U sv (es.map Fy))(CO:∀x∈es,jZ a.heap.size U x.2 x.1.op)
  (h4:∀n,n<6->((t.tab n).does≠0->jZ a.heap.size U ((g n).o,(g n).hs) (t.tab n).op)/\((t.tab n).does=2\/(t.tab n).does=3->(g n).sp=.pointer (some ⟨sb n,0,none⟩)))(lD:a.heap.size<=T)(cP:Fr aS a U)
  {i:Nat}(hi:i<6)(hd:(t.tab i).does≠0)(r:kt)(hF:Fr (own sv) U U')(cW:OwnRows a.heap.size 43 28 U' v' (es.map Fy++[Fy (⟨i,(t.tab i).op,r,(t.tab i).iG,t.steps⟩,((g i).o,(g i).hs))])) :
  gD U' T B g sv t/\df xw a ((U'.setCell ⟨T,288,none⟩ v').setCells T (17+i*45) (nj fo zeroV)) T (ja t i r)/\(U'.setCell ⟨T,288,none⟩ v').there T (17+i*45) 45/\Fr (one T) U' ((U'.setCell ⟨T,288,none⟩ v').setCells T (17+i*45) (nj fo zeroV))/\gW U ((U'.setCell ⟨T,288,none⟩ v').setCells T (17+i*45) (nj fo zeroV)):=by
 obtain⟨d,hbd,_⟩:=h1.eN;have hk:∀n,own sv n->∃c,U.heap[n]?=some (.cells c 43 (0,0)):=fun n hn=>mE.Ca hn;have hT:¬own sv T:=fun e=>by
  obtain⟨c,hc⟩:=hk T e;rw[hbd]at hc;cases hc
 have b1:=h1.fr hF hT;have b2:=h2.far hF (fun n hn=>mE.block n hn) (fun n hn=>by
  obtain⟨c,hc⟩:=hk n hn;exact⟨c,_,hc,mR.1,mR.2,ag⟩)
 have ho:∀ {v:jO×List ig} {o:iE},jZ a.heap.size U v o->jZ a.heap.size U' v o:=fun q=>q.rows (q.own.fr hF fun b hb hs=>by
  obtain⟨c,hc⟩:=hk b hs;exact q.own.not hc ag hb)
 have b3:oA a.heap.size U' v' (t.cU++[⟨i,(t.tab i).op,r,(t.tab i).iG,t.steps⟩]):=by
  refine⟨es++[(⟨i,(t.tab i).op,r,(t.tab i).iG,t.steps⟩,((g i).o,(g i).hs))],by rw[bI,Gd];rfl,by rw[bI];exact cW,fun x hx=>?_⟩;rcases bL.1 hx with hx|hx
  ·exact ho (CO x hx)
  ·rcases cH.1 hx with rfl
   exact ho ((h4 i hi).1 hd)
 have q1:=b1.WZ v' (t.cU++[⟨i,(t.tab i).op,r,(t.tab i).iG,t.steps⟩]);have q2:=q1.1.OZ hi fo zeroV;have hkt:gW U ((U'.setCell ⟨T,288,none⟩ v').setCells T (17+i*45) (nj fo zeroV)):=by
  obtain⟨d',tZ,_⟩:=b1.eN;refine((lL U).step hF fun n c e _ hn he q=>?_).tabs tZ (q1.2.trans q2.2);obtain⟨c',Yy⟩:=hk n q;rw[Yy]at hn;cases hn;exact he.2.1 rfl
 refine⟨b1,?_,q1.1.there ab,q1.2.trans q2.2,hkt⟩;have aqy:Fr aS a U':=cP.step hF fun k hk e=>by have:=mE.block k e;omega
 obtain⟨c',Yy,_⟩:=b1.eN;obtain⟨c2,sR,_⟩:=q1.1.eN;have b2':=(b2.one lD Yy rJ.1 rJ.2 ag q1.2);have b3':=(b3.one Yy ag ag q1.2)
 exact kP (t:={t with cU:=t.cU++[⟨i,(t.tab i).op,r,(t.tab i).iG,t.steps⟩]}) (t':=ja t i r) q1.1 b2' b3' (fun n hn=>⟨fun tZ=>(ho ((h4 n hn).1 tZ)).one Yy ag q1.2,(h4 n hn).2⟩) lD (aqy.step q1.2 fun k hk e=>by have e':k=T:=e;omega) q2 rfl (O5 (t:={t with cU:=t.cU++[⟨i,(t.tab i).op,r,(t.tab i).iG,t.steps⟩]}) (t':=ja t i r) rfl i (fun n hn=>aq hn) (by simp[ja,fo]) (by simp[ja,fo])) (fun j hj=>by
   by_cases ei:j=i
   ·subst ei;simp[ja,fo]
   ·simp only[ja,aq ei];exact⟨fun tZ=>Or.inl ⟨trivial,trivial,trivial,tZ⟩,(h4 j hj).2⟩)
theorem E5(h:df xw a U T t){i:Nat}(hi:i<6)(r:kt)(hd:(t.tab i).does≠0)(hl:t.cU.length<1000000) :
  aB 88 #[.pointer (some ⟨T,0,none⟩),.int .i64 i,.pointer (some ⟨T,17+i*45,none⟩),.agg #[.int .i64 r.what,.string r.head,.int .i64 r.cert]] U fun e w'=>e=.returned (.tuple #[.agg #[.int .i64 r.what,.string r.head,.int .i64 r.cert],.bool true,.nilIface])/\df xw a w' T (ja t i r)/\gW U w':=by
 obtain⟨x2,Qf⟩:∃x2,x2=(U.alloc (.cells #[.int .i64 r.what,.string r.head,.int .i64 r.cert] 30)).alloc (.cells #[.int .i64 0,.string ⟨#[]⟩,.int .i64 0] 30):=⟨_,rfl⟩;have dE:Fr aS U x2:=by rw[Qf];exact((ae aS U).alloc _).alloc _
 have k7:x2.heap[U.heap.size]?=some (.cells #[.int .i64 r.what,.string r.head,.int .i64 r.cert] 30 (0,0)):=by rw[Qf];exact((ae aS _).alloc _).keep (aC _ _) id
 have k8:x2.heap[U.heap.size+1]?=some (.cells #[.int .i64 0,.string ⟨#[]⟩,.int .i64 0] 30 (0,0)):=by
  rw[Qf];have:=aC (U.alloc (.cells #[.int .i64 r.what,.string r.head,.int .i64 r.cert] 30)) (.cells #[.int .i64 0,.string ⟨#[]⟩,.int .i64 0] 30);simpa using this
 have hU2:x2.heap.size=U.heap.size+2:=by rw[Qf];simp
 have fU:=O (dE.drew);obtain⟨R,hR⟩:∃R,R=U.heap.size:=⟨_,rfl⟩;have hxd:x2.drew.heap.size=R+2:=hU2.trans (by rw[hR]);have h':=h.dm (dE.drew);have k7':x2.drew.heap[R]?=some (.cells #[.int .i64 r.what,.string r.head,.int .i64 r.cert] 30 (0,0)):=by rw[hR];exact k7
 have k8':x2.drew.heap[R+1]?=some (.cells #[.int .i64 0,.string ⟨#[]⟩,.int .i64 0] 30 (0,0)):=by rw[hR];exact k8
 obtain⟨B,g,sv,sb,h1,h2,⟨es,Gd,mE,CO⟩,h4⟩:=h'.ex;have hTl:T<R:=by
  obtain⟨_,_,_,_,q1,_⟩:=h.ex;have:=q1.lt;omega
 have Hk:=(h4 i hi).1 hd;obtain⟨ah,ch,hh⟩:=Hk.own.form;rw[ai]at hh;have F1:=h1.abh hi hh k7';have ac4:=O (fun U' v' r hF cW=>gD.more (U':=U') (v':=v') h1 h2 Gd mE CO h4 h'.low h'.fr hi hd r hF cW);have afX:es.length<1000000:=by rw[<-ai (f:=(·.1)),Gd];exact hl
 have iL:a.heap.size<=R:=by have:=h.fr.size;omega
 obtain⟨x,hX⟩:∃x,x=Tk i (g i).o ah (g i).hs.length ch r (t.tab i).iG t.steps:=⟨_,rfl⟩;have T':=O (E0 (n:=i) hh (t.tab i).op r (t.tab i).iG t.steps);have Nl:=O (show∀u∈x,u.oneCell'=true by rw[hX];exact Dc _ _ _ _ _ _ _ _);have HXL:=O (show x.length=28 by rw[hX];rfl);obtain⟨asv,csv,Xv⟩:=mE.form;rw[ai]at Xv
 have ac5:=O (show x2.drew.ownsRow a.heap.size 43 28 (.slice asv es.length csv) es.length (es.map Fy).flatten by
  have q:=mE.2
  rwa [ai,Xv]at q)
 have afY:=O (show∀n c e,x2.drew.heap[n]?=some (.cells c e (0,0))->e≠43->(Value.slice asv es.length csv).ownBlock≠some n from fun n c e hn he=>by rw[<-Xv];exact mE.not hn he);have Ug:=O (show∀y∈es.map Fy,y.length=28/\∀u∈y,u.oneCell'=true from mE.1);have HBT:=O (h1.eN);have d288:=h1.st;rw[Xv]at d288 ac4;have HR:=O hR;have HRU:=O (show U.heap.size<=R+1 from ab);have HX:=O Qf;have VX:=O hX
 have HK7:=O k7';have HK8:=O k8';have HXD:=O hxd;obtain⟨i0,qN,pD,ll,lF⟩:=info_parts JD;generalize (g i).o=o at *
 generalize (g i).hs=hs at *
 generalize hnh:hs.length=nh at *
 generalize aqA:(t.tab i).iG=iG at *
 generalize aqB:t.steps=steps at *
 clear hnh h1 h2 Gd mE CO h4 h' h hd Hk hh Xv dE k7 k8 k7' k8' hX Qf hR hU2 aqA aqB hxd;go_enter func88,ntmps88;go_wp2_with fail
 rw[<-HX.o, <-HR.o];clear HX;unfold Go.Proofs.YtnckmcnffadjoaaGreatDoor.abh at F1
 refine wp_region_held_drew (S:=(fun V=>V.rangeAt T (17+i*45+1) [.int .i64 o.what,.int .i64 o.aN.part,.bool o.aN.dt.aG,.string o.aN.dt.host,.int .i64 o.aN.dt.port,.bool o.aN.o.aG,.string o.aN.o.host,.int .i64 o.aN.o.port,.string o.aN.path,.string o.aN.query,.string o.aN.method,.slice ah nh ch,.bool o.aN.f_,.string o.aN.body,.bool o.proxy,.string o.text,.string o.user,.string o.pass,.string o.bS,.int .i64 o.cert,.bool o.all,.int .i64 o.n]/\V.rangeAt R 0 [.int .i64 r.what,.string r.head,.int .i64 r.cert]/\V.cell? ⟨T,17+i*45+24,none⟩=some (.int .i64 iG)/\V.cell? ⟨T,287,none⟩=some (.int .i64 steps))) af (by exact F1) ?_
 intro zl;refine aU 0 11 rfl ?_;refine aU 1 12 rfl ?_;refine aU 2 13 rfl ?_;refine aU 3 14 rfl ?_;refine aU 5 16 rfl ?_;refine aU 6 17 rfl ?_;refine aU 7 18 rfl ?_;refine aU 8 19 rfl ?_
 refine tY 9 20 rfl (fI bD 41 (.tmp 19) rfl T (17+i*45+1) rfl ([.int .i64 o.what,.int .i64 o.aN.part,.bool o.aN.dt.aG,.string o.aN.dt.host,.int .i64 o.aN.dt.port,.bool o.aN.o.aG,.string o.aN.o.host,.int .i64 o.aN.o.port,.string o.aN.path,.string o.aN.query,.string o.aN.method,.slice ah nh ch,.bool o.aN.f_,.string o.aN.body,.bool o.proxy,.string o.text,.string o.user,.string o.pass,.string o.bS,.int .i64 o.cert,.bool o.all,.int .i64 o.n]) _ (fun w hw=>hw.1) underlying41 rfl af) ?_
 try simp only[Act.put,sA,sB,sC]
 refine tY 10 21 rfl (fI bD 30 (.tmp 7) rfl R 0 rfl ([.int .i64 r.what,.string r.head,.int .i64 r.cert]) _ (fun w hw=>hw.2.1) underlying30 rfl af) ?_
 try simp only[Act.put,sA,sB,sC]
 refine aU 11 22 rfl ?_;refine aU 12 23 rfl ?_;refine aU 13 24 rfl ?_;refine aU 14 25 rfl ?_;refine aU 15 26 rfl ?_;refine aU 16 27 rfl ?_;refine aU 17 28 rfl ?_;refine aU 18 29 rfl ?_
 have YN:prog.built 43 [(0,.int .i64 i),(1,.agg #[.int .i64 o.what,.int .i64 o.aN.part,.bool o.aN.dt.aG,.string o.aN.dt.host,.int .i64 o.aN.dt.port,.bool o.aN.o.aG,.string o.aN.o.host,.int .i64 o.aN.o.port,.string o.aN.path,.string o.aN.query,.string o.aN.method,.slice ah nh ch,.bool o.aN.f_,.string o.aN.body,.bool o.proxy,.string o.text,.string o.user,.string o.pass,.string o.bS,.int .i64 o.cert,.bool o.all,.int .i64 o.n]),(2,.agg #[.int .i64 r.what,.string r.head,.int .i64 r.cert]),(3,.int .i64 iG),(4,.int .i64 steps)]=some x.toArray:=by rw[VX.o];exact abg i o ah nh ch r iG steps
 refine tY 19 30 rfl (yl rfl 43 _ rfl x.toArray _ (by simp only[eH,cF,dv];rfl) YN) ?_;clear YN
 try simp only[Act.put,sA,sB,sC]
 have OI:=O zl;have HD:=O d288;clear d288;refine wpAnyH_ready (rs:=[4,20]) af aR ?_;refine AllReadyH.cons rfl (fun K hK=>?hA) (AllReadyH.cons rfl (fun K hK=>?hB) AllReadyH.nil)
 case' hA =>
  have d288:=HD.o;go_simp;refine hK.out _ _ OI.o ?_;intro xF;clear hK K xF d288
  try simp only[Act.put,sA,sB,sC]
  refine eR 20 rfl fun K hK=>?_;have Aa:Instr.fill (fun i=>some (i*28,28)) ((Array.range (1*28)).map ((Value.agg xg).cells[· %(Value.agg xg).cells.size]!)) [(0,.agg x.toArray)]=some x.toArray:=by rw[VX.o];exact Pr i o ah nh ch r iG steps
  refine vH rfl 25 43 1 _ rfl x.toArray i0 (.agg xg) [(0,.agg x.toArray)] (by simp only[eH,cF,dv];rfl) underlying25 qN pD (by rw[ll];decide) (by rw[ll];decide) (by rw[ll];exact Aa) ?_;clear Aa;obtain⟨x3,ya⟩:∃x3,x3=x2.drew.alloc (.cells x.toArray 43):=⟨_,rfl⟩;have Fx:Fr aS x2.drew x3:=by rw[ya];exact(ae aS _).alloc _
  have afZ:x3.heap.size=R+3:=by rw[ya];simp[HXD.o]
  have hN3:∀j u,x[j]?=some u->x3.cell? ((⟨R+2,0,none⟩:Addr).add j)=some u:=by
   rw[ya, <-HXD.o];exact kY _ x _
  have HO3:x3.ownsRow a.heap.size 43 28 (.slice asv es.length csv) es.length (es.map Fy).flatten:=by rw[ya];exact World.ownsRow.alloc ac5.o _
  have F0:(x3).rangeAt T (17+i*45+1) [.int .i64 o.what,.int .i64 o.aN.part,.bool o.aN.dt.aG,.string o.aN.dt.host,.int .i64 o.aN.dt.port,.bool o.aN.o.aG,.string o.aN.o.host,.int .i64 o.aN.o.port,.string o.aN.path,.string o.aN.query,.string o.aN.method,.slice ah nh ch,.bool o.aN.f_,.string o.aN.body,.bool o.proxy,.string o.text,.string o.user,.string o.pass,.string o.bS,.int .i64 o.cert,.bool o.all,.int .i64 o.n]/\(x3).rangeAt R 0 [.int .i64 r.what,.string r.head,.int .i64 r.cert]/\(x3).cell? ⟨T,17+i*45+24,none⟩=some (.int .i64 iG)/\(x3).cell? ⟨T,287,none⟩=some (.int .i64 steps):=(⟨ql OI.o.1 Fx id,ql OI.o.2.1 Fx id,og OI.o.2.2.1 Fx id,og OI.o.2.2.2 Fx id⟩)
  have d288:=og HD.o Fx id;rw[<-ya,HXD.o];refine hK.out _ _ F0 ?_;clear hK K ya;intro Aw
 case' hB =>
  have Aa:Instr.fill (fun i=>some (i*28,28)) ((Array.range (1*28)).map ((Value.agg xg).cells[· %(Value.agg xg).cells.size]!)) [(0,.agg x.toArray)]=some x.toArray:=by rw[VX.o];exact Pr i o ah nh ch r iG steps
  refine vH rfl 25 43 1 _ rfl x.toArray i0 (.agg xg) [(0,.agg x.toArray)] (by simp only[eH,cF,dv];rfl) underlying25 qN pD (by rw[ll];decide) (by rw[ll];decide) (by rw[ll];exact Aa) ?_;clear Aa;obtain⟨x3,ya⟩:∃x3,x3=x2.drew.alloc (.cells x.toArray 43):=⟨_,rfl⟩;have Fx:Fr aS x2.drew x3:=by rw[ya];exact(ae aS _).alloc _
  have afZ:x3.heap.size=R+3:=by rw[ya];simp[HXD.o]
  have hN3:∀j u,x[j]?=some u->x3.cell? ((⟨R+2,0,none⟩:Addr).add j)=some u:=by
   rw[ya, <-HXD.o];exact kY _ x _
  have HO3:x3.ownsRow a.heap.size 43 28 (.slice asv es.length csv) es.length (es.map Fy).flatten:=by rw[ya];exact World.ownsRow.alloc ac5.o _
  have F0:(x3).rangeAt T (17+i*45+1) [.int .i64 o.what,.int .i64 o.aN.part,.bool o.aN.dt.aG,.string o.aN.dt.host,.int .i64 o.aN.dt.port,.bool o.aN.o.aG,.string o.aN.o.host,.int .i64 o.aN.o.port,.string o.aN.path,.string o.aN.query,.string o.aN.method,.slice ah nh ch,.bool o.aN.f_,.string o.aN.body,.bool o.proxy,.string o.text,.string o.user,.string o.pass,.string o.bS,.int .i64 o.cert,.bool o.all,.int .i64 o.n]/\(x3).rangeAt R 0 [.int .i64 r.what,.string r.head,.int .i64 r.cert]/\(x3).cell? ⟨T,17+i*45+24,none⟩=some (.int .i64 iG)/\(x3).cell? ⟨T,287,none⟩=some (.int .i64 steps):=(⟨ql OI.o.1 Fx id,ql OI.o.2.1 Fx id,og OI.o.2.2.1 Fx id,og OI.o.2.2.2 Fx id⟩)
  have d288:=og HD.o Fx id;rw[<-ya,HXD.o];refine hK.out _ _ F0 ?_;clear hK K ya;intro Aw
  try simp only[Act.put,sA,sB,sC]
  refine eR 4 rfl fun K hK=>?_;go_simp;refine hK.out _ _ F0 ?_;intro BC;clear hK K BC
 all_goals
  try simp only[Act.put,sA,sB,sC]
  clear zl;refine eR 21 rfl fun K hK=>?_;refine step_append_lies (w:=x3) rfl (.tmp 15) (.tmp 31) 25 rfl a.heap.size 43 i0 _ 28 328 underlying25 qN pD ll lF rfl ab (.slice asv es.length csv) es.length _ rfl HO3 ⟨R+2,0,none⟩ 1 1 x rfl (by rw[HXL.o]) hN3 Nl.o ab ft ab ab (R+3) afZ ?_;intro gg cap w4 fg jJ dS LH
  have j6:Fr (own (.slice asv es.length csv)) x2.drew w4:=fy (Fx.mono (fun _ _ h=>absurd h id)) jJ (fun _ hk _=>hk);have hm:=ac4.o w4 (.slice (some ⟨gg,0,none⟩) (es.length+1) cap) r j6 (by
   refine⟨fun y hy=>?_,?_⟩
   ·rcases bL.1 hy with hy|hy
    ·exact Ug.o y hy
    ·rcases cH.1 hy with rfl
     rw[T'.o, <-VX.o];exact⟨HXL.o,Nl.o⟩
   ·rw[T'.o, <-VX.o,aK,ai,ey];simpa using fg)
  obtain⟨m1,m2,m3,m4,m5⟩:=hm;have HM5:=O ((eL fU.o).trans m5);have HM2:=O m2;have TS:=O m3;have HM4:=O m4;have nR:=afY.o R _ _ HK7.o ag;have nT:(Value.slice asv es.length csv).ownBlock≠some T:=by
   obtain⟨bt,YN,_⟩:=HBT.o;exact afY.o T _ _ YN ag
  have n7:=j6.keep HK7.o nR;have n8:=j6.keep HK8.o (afY.o _ _ _ HK8.o ag);have aqD:=m1.st;have f288:=m1.free 288
  have BC:(w4).rangeAt T (17+i*45+1) [.int .i64 o.what,.int .i64 o.aN.part,.bool o.aN.dt.aG,.string o.aN.dt.host,.int .i64 o.aN.dt.port,.bool o.aN.o.aG,.string o.aN.o.host,.int .i64 o.aN.o.port,.string o.aN.path,.string o.aN.query,.string o.aN.method,.slice ah nh ch,.bool o.aN.f_,.string o.aN.body,.bool o.proxy,.string o.text,.string o.user,.string o.pass,.string o.bS,.int .i64 o.cert,.bool o.all,.int .i64 o.n]/\(w4).rangeAt R 0 [.int .i64 r.what,.string r.head,.int .i64 r.cert]/\(w4).cell? ⟨T,17+i*45+24,none⟩=some (.int .i64 iG)/\(w4).cell? ⟨T,287,none⟩=some (.int .i64 steps):=(⟨ql OI.o.1 j6 nT,ql OI.o.2.1 j6 nR,og OI.o.2.2.1 j6 nT,og OI.o.2.2.2 j6 nT⟩)
  have Z6:=O m1;refine hK.out _ _ BC ?_;intro hS5;clear hK K m1 m2 m3 m4 m5 fg jJ dS LH HO3 hN3 F0 d288
  try simp only[Act.put,sA,sB,sC]
  refine aU 22 33 rfl ?_;refine aU 23 34 rfl ?_;refine eR 24 rfl fun K hK=>?_;go_simp;have hFT:Fr (one T) w4 (w4.setCell ⟨T,288,none⟩ (.slice (some ⟨gg,0,none⟩) (es.length+1) cap)):=(ae (one T) _).setCell (p:=⟨T,288,none⟩) (fun _=>rfl) _;have hRT:R≠T:=ab
  have hS6:(w4.setCell ⟨T,288,none⟩ (.slice (some ⟨gg,0,none⟩) (es.length+1) cap)).rangeAt T (17+i*45+1) [.int .i64 o.what,.int .i64 o.aN.part,.bool o.aN.dt.aG,.string o.aN.dt.host,.int .i64 o.aN.dt.port,.bool o.aN.o.aG,.string o.aN.o.host,.int .i64 o.aN.o.port,.string o.aN.path,.string o.aN.query,.string o.aN.method,.slice ah nh ch,.bool o.aN.f_,.string o.aN.body,.bool o.proxy,.string o.text,.string o.user,.string o.pass,.string o.bS,.int .i64 o.cert,.bool o.all,.int .i64 o.n]/\(w4.setCell ⟨T,288,none⟩ (.slice (some ⟨gg,0,none⟩) (es.length+1) cap)).rangeAt R 0 [.int .i64 r.what,.string r.head,.int .i64 r.cert]/\(w4.setCell ⟨T,288,none⟩ (.slice (some ⟨gg,0,none⟩) (es.length+1) cap)).cell? ⟨T,17+i*45+24,none⟩=some (.int .i64 iG)/\(w4.setCell ⟨T,288,none⟩ (.slice (some ⟨gg,0,none⟩) (es.length+1) cap)).cell? ⟨T,287,none⟩=some (.int .i64 steps):=(⟨zd BC.1 bH,ql BC.2.1 hFT (fun e=>hRT e),eZ (vs:=[_]) BC.2.2.1 (Or.inl ab),eZ (vs:=[_]) BC.2.2.2 (Or.inl ab)⟩)
  refine hK.out _ _ hS6 ?_;intro hS7;clear hK K hS7 hS5;refine wpAnyH_done af ?_ _;have p7:=hFT.keep n7 (fun e=>hRT e);have p8:=hFT.keep n8 (fun e=>by have e':R+1=T:=e;omega);have HP7:=O (((HM4.o).keep n7 (fun e=>hRT e)));have HP8:=O (((HM4.o).keep n8 (fun e=>by have e':R+1=T:=e;omega)));clear BC hS6 n7 n8 aqD f288 j6 Fx afZ
  generalize w4.setCell ⟨T,288,none⟩ (.slice (some ⟨gg,0,none⟩) (es.length+1) cap)=W5 at *
  go_wp2_with (first|((with_reducible refine cZ 72 ?_);refine iw rfl 72 _ _ rfl T (17+i*45) (nj fo zeroV).toArray rfl rfl TS.o rfl (AE _ _ rfl rfl) ?_)|((with_reducible refine dr 38 ?_);refine aI rfl 30 (.tmp 7) rfl R rfl _ #[.int .i64 r.what,.string r.head,.int .i64 r.cert] (0,0) _ HP7.o underlying30 rfl (bf _ rfl) ?_)|((with_reducible refine cZ 30 ?_);refine aF rfl 30 (.tmp 8) (.tmp 38) rfl (R+1) #[.int .i64 r.what,.string r.head,.int .i64 r.cert] rfl rfl _ bU HP8.o (bf _ rfl) rfl cC ?_)|fail)
  refine aW (jB bD _ _ (R+1) 30 #[.int .i64 r.what,.string r.head,.int .i64 r.cert] (0,0) _ rfl (a_ _ (R+1) _ _ _ _ HP8.o) underlying30 rfl (bf _ rfl)) rfl ?_;exact⟨rfl,df.far HM2.o ((ae (one (R+1)) _).setRow (fun _=>rfl) _) (fun n hn=>by have e':n=R+1:=hn;omega) (fun n hn=>by cases(show n=R+1 from hn);exact⟨_,_,HP8.o,JB⟩),HM5.o.new ((ae (one (R+1)) _).setRow (fun _=>rfl) _) HRU.o⟩
end
