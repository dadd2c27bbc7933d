/- Lemmas for the law's walk. -/
import Derived.Test.YtjndhcngnghpiaaGreatDoorPo18
set_option maxRecDepth 100000
set_option maxHeartbeats 16000000
set_option linter.unusedSimpArgs false
namespace Go.Proofs.YtjndhcngnghpiaaGreatDoor
open Go.Proofs.Tryz
open Go.RowKit
variable {k g T ch:Nat} {v:Value} {S:dz} {V U:World} {cs:aX} {o:kn} {ah:eZ}
theorem Rc:(prog.info? 142).map (fun i=>(i.zero,i.size,i.bytes))=some (some (.agg #[.string ⟨#[]⟩,.string ⟨#[]⟩]),2,32):=af
theorem zA{ops:Array Oper}{rest:List Oper}{o:Oper}{a:Act}{Q:Exit->Act->World->Prop}{w:World}(ym:o.guard=none)(s x:Operand)
  (ho:o.op=.call {callee:=.builtin .append,args:= #[s,x],argTypes:= #[27,27]})(base:Nat)(v:Value)(l:cU)(hs:a.eval s=v)(cO:OwnRows base 142 2 w v l)
  (vx:Value)(m:cU)(hx:a.eval x=vx)(hm:eb 2 w vx m)(hlen:l.length+m.length<1000000000)(il:base<=w.heap.size)
  (h:∀v' w',OwnRows base 142 2 w' v' (l++m)->w.grownBy w' v.ownBlock->wpList prog ops Q rest (a.put o.dst v') w'):wpList prog ops Q (o :: rest) a w:=by
 obtain⟨i0,hi,oZ,kI,kS⟩:=info_parts Rc;obtain⟨ax,cx,fT⟩:=hm.form;have HM:=hm.1;cases ax with
 |none =>
  obtain⟨W_,h2⟩:m=[]/\cx=0:=by
   rcases hm.2 with ⟨a',c',hv,hs,hc⟩|⟨bk,o',c,hf,_⟩
   ·rw[fT]at hv;injection hv with e1 e2 e3
    exact⟨hs,e3.trans (hc e1.symm)⟩
   ·rw[fT]at hf;injection hf with e1;cases e1
  subst W_;have SB:a.eval x=.slice none 0 0:=by rw[hx,fT,h2];rfl
  refine wpList_append_own_none ym s x 27 ho base 142 i0 2 underlying27 hi v l.length l.flatten hs cO.2 SB ?_;exact h v w (by rw[dI];exact cO) ⟨rfl,rfl,rfl,ay _,fun _ _ _=>rfl⟩
 |some ad =>
  have za:m.flatten.length=m.length*2:=gi (fun x hx=>(HM x hx).1);refine wpList_append_own w ym s x 27 ho base 142 i0 (.agg #[.string ⟨#[]⟩,.string ⟨#[]⟩]) 2 32 underlying27 hi oZ kI kS rfl ag v l.length l.flatten hs cO.2 ad m.length cx m.flatten (hx.trans fT) za ?_ ?_ ?_ ?_ il ?_
  ·intro j u hj;rcases hm.2 with ⟨_,_,_,e,_⟩|⟨bk,o',c,hf,g1,g2,g3,g4⟩
   ·subst e;simp at hj
   ·rw[hf]at fT;cases fT;have hjl:=(List.getElem?_eq_some_iff.1 hj).1;have hd:j/2<m.length:=ab;have hmo:j%2<2:=ab;have ob:(m[j/2]).length=2:=(HM _ (bL hd)).1;have e1:=ra (k:=2) (xs:=m) (fun x hx=>(HM x hx).1) (j:=j/2) (List.getElem?_eq_getElem hd) (i:=j%2) (List.getElem?_eq_getElem (by rw[ob];exact hmo));rw[Nat.div_add_mod']at e1;rw[e1]at hj;cases hj
    have:=g4 (j/2) _ (List.getElem?_eq_getElem hd) (j%2) _ (List.getElem?_eq_getElem (by rw[ob];exact hmo));have ea:(Addr.add ⟨bk,o',none⟩ j)=⟨bk,o'+j,none⟩:=by unfold Addr.add;split<;>simp_all
    rw[ea, <-this]
    congr 2
    omega
  ·intro u hu;obtain⟨y,hy,huy⟩:=fD.1 hu;exact(HM y hy).2 u huy
  ·unfold maxLen;omega
  ·omega
  ·intro v' w' h1 h2 _;refine h v' w' ⟨fun y hy=>?_,by simpa using h1⟩ h2;rcases bP.1 hy with hy|hy
   ·exact cO.1 y hy
   ·exact HM y hy
theorem AE(w:World)(o:jB)(hs:List gU)(hf:gL w o hs) :
  aC 19 #[.agg o.cells.toArray] w fun e w'=>e=.returned (.tuple #[.int .i64 ((eN (o.dP hs)).1:Nat),.bool (eN (o.dP hs)).2])/\Fr aW w w':=by
 obtain⟨ah,ch,gq⟩:=hf.gO;obtain⟨w2,ez⟩:∃w2,w2=w.alloc (.cells o.cells.toArray 33):=⟨_,rfl⟩;have dD:Fr aW w w2:=by rw[ez];exact(ae aW w).alloc _
 have k1:w2.heap[w.heap.size]?=some (.cells o.cells.toArray 33 (0,0)):=by rw[ez];exact aB _ _
 have sR:=O (kY o hs w2 (hf.dt dD));obtain⟨a0,a1,a2,a3,a4,a5,a6,a7,a8,a9,jr,js,a12,jq,jt,i_,jD,jE,jF,jN,a20,a21⟩:=ed k1 gq;have mE:=O k1;have lg:=O gq;have fS:=O dD;rw[ez]at a0 a1 a2 a3 a4 a5 a6 a7 a8 a9 jr js a12 jq jt i_ jD jE jF jN a20 a21;rw[dV gq]at ez sR a0 a1 a2 a3 a4 a5 a6 a7 a8 a9 jr js a12 jq jt i_ jD jE jF jN a20 a21 ⊢;have oz:=O ez;clear ez gq dD k1 hf;go_enter func19,ntmps19
 have u_:=O (aB w (.cells #[.int .i64 o.what,.int .i64 o.aI.part,.bool o.aI.cQ.aG,.string o.aI.cQ.host,.int .i64 o.aI.cQ.port,.bool o.aI.o.aG,.string o.aI.o.host,.int .i64 o.aI.o.port,.string o.aI.path,.string o.aI.query,.string o.aI.method,.slice ah hs.length ch,.bool o.aI.fF,.string o.aI.body,.bool o.proxy,.string o.text,.string o.user,.string o.pass,.string o.bI,.int .i64 o.cert,.bool o.all,.int .i64 o.n] 33))
 go_wp2_with (first|((with_reducible refine dv 4 ?_);refine aJ rfl 33 (.tmp 1) rfl w.heap.size rfl _ #[.int .i64 o.what,.int .i64 o.aI.part,.bool o.aI.cQ.aG,.string o.aI.cQ.host,.int .i64 o.aI.cQ.port,.bool o.aI.o.aG,.string o.aI.o.host,.int .i64 o.aI.o.port,.string o.aI.path,.string o.aI.query,.string o.aI.method,.slice ah hs.length ch,.bool o.aI.fF,.string o.aI.body,.bool o.proxy,.string o.text,.string o.user,.string o.pass,.string o.bI,.int .i64 o.cert,.bool o.all,.int .i64 o.n] (0,0) _ u_.o underlying33 rfl af ?_)|fail)
 rw[<-oz.o];refine sR.o.mono ?_;rintro e u⟨rfl,hu⟩;clear a0 a1 a2 a3 a4 a5 a6 a7 a8 a9 jr js a12 jq jt i_ jD jE jF jN a20 a21 sR;obtain⟨a0,a1,a2,a3,a4,a5,a6,a7,a8,a9,jr,js,a12,jq,jt,i_,jD,jE,jF,jN,a20,a21⟩:=ed (hu.keep mE.o id) lg.o;have HU:=O (fS.o.trans hu);clear hu;cases hr:(o.dP hs).right
 ·have HC:=O (show eN (o.dP hs)=(0,false)by unfold eN;rw[hr];rfl);clear hr;go_wp2;go_ret2;rw[HC.o];exact⟨rfl,HU.o⟩
 ·have hr':=hr;unfold kn.right at hr';simp only[cy,dx]at hr';have oT:1<=o.what:=hr'.1;have anZ:o.what<=10:=hr'.2.1;clear hr';have HC:=O (show eN (o.dP hs)=if o.what=1\/o.what=2\/o.what=3\/o.what=8 then(1,true)else if o.what=4 then(10,false)else if o.what=5 then(10,true)else if o.what=6 then(4,false)else if o.what=7 then(4,true)else if o.what=10 then(8,true)else(7,true)by unfold eN;rw[hr];rfl)
  clear hr;have hq:o.what=1\/o.what=2\/o.what=3\/o.what=4\/o.what=5\/o.what=6\/o.what=7\/o.what=8\/o.what=9\/o.what=10:=ab;clear oT anZ;rcases hq with hq|hq|hq|hq|hq|hq|hq|hq|hq|hq
  ·as_aux_lemma =>
    rw[hq]at a0 HC;have zk:=O (HC.o.trans (by first|rfl|decide));clear HC;have HQ:=O hq;clear hq;go_wp2;go_ret2;rw[zk.o];exact⟨rfl,HU.o⟩
  ·as_aux_lemma =>
    rw[hq]at a0 HC;have zk:=O (HC.o.trans (by first|rfl|decide));clear HC;have HQ:=O hq;clear hq;go_wp2;go_ret2;rw[zk.o];exact⟨rfl,HU.o⟩
  ·as_aux_lemma =>
    rw[hq]at a0 HC;have zk:=O (HC.o.trans (by first|rfl|decide));clear HC;have HQ:=O hq;clear hq;go_wp2;go_ret2;rw[zk.o];exact⟨rfl,HU.o⟩
  ·as_aux_lemma =>
    rw[hq]at a0 HC;have zk:=O (HC.o.trans (by first|rfl|decide));clear HC;have HQ:=O hq;clear hq;go_wp2;go_ret2;rw[zk.o];exact⟨rfl,HU.o⟩
  ·as_aux_lemma =>
    rw[hq]at a0 HC;have zk:=O (HC.o.trans (by first|rfl|decide));clear HC;have HQ:=O hq;clear hq;go_wp2;go_ret2;rw[zk.o];exact⟨rfl,HU.o⟩
  ·as_aux_lemma =>
    rw[hq]at a0 HC;have zk:=O (HC.o.trans (by first|rfl|decide));clear HC;have HQ:=O hq;clear hq;go_wp2;go_ret2;rw[zk.o];exact⟨rfl,HU.o⟩
  ·as_aux_lemma =>
    rw[hq]at a0 HC;have zk:=O (HC.o.trans (by first|rfl|decide));clear HC;have HQ:=O hq;clear hq;go_wp2;go_ret2;rw[zk.o];exact⟨rfl,HU.o⟩
  ·as_aux_lemma =>
    rw[hq]at a0 HC;have zk:=O (HC.o.trans (by first|rfl|decide));clear HC;have HQ:=O hq;clear hq;go_wp2;go_ret2;rw[zk.o];exact⟨rfl,HU.o⟩
  ·as_aux_lemma =>
    rw[hq]at a0 HC;have zk:=O (HC.o.trans (by first|rfl|decide));clear HC;have HQ:=O hq;clear hq;go_wp2;go_ret2;rw[zk.o];exact⟨rfl,HU.o⟩
  ·as_aux_lemma =>
    rw[hq]at a0 HC;have zk:=O (HC.o.trans (by first|rfl|decide));clear HC;have HQ:=O hq;clear hq;go_wp2;go_ret2;rw[zk.o];exact⟨rfl,HU.o⟩
theorem rJ{P:Program}{ops:Array Oper}{a:Act}{w:World}{K:Act->World->Prop}{Q:Exit->Act->World->Prop}{E:Prop}{op:Oper}(ym:op.guard=none)(ty:TypeId)(x y:Operand)(ho:op.op=.store ty x y)
  (b o:Nat)(cells:bS)(hx:a.eval x=.pointer (some ⟨b,o,none⟩))(hy:a.eval y=.agg cells)
  (ht:w.there b o cells.size)(hi:(P.info? ty).map (·.size)=some cells.size)(h1:cells.all (·.oneCell')=true)
  (h:K (a.put op.dst undef) (w.setCells b o cells.toList)):if Region.wanted op (yielded ops a.tmps)=true then Oper.wp P op a w K Q else E:=by
 have hw:Region.wanted op (yielded ops a.tmps)=true:=by simp[Region.wanted,ym]
 rw[aA hw];exact wp_store_mid ty x y ho b o cells hx hy ht hi h1 h
section
variable {xw : Option (Nat × d_)} {a U U' : World} {T : Nat} {t : gB}
def adA(o:jB)(hs:List gU)(a9:eZ)(c9:Nat)(t:gB)(T N:Nat)(V:World):Prop:=V.rangeAt N 0 [.int .i64 o.what,.int .i64 o.aI.part,.bool o.aI.cQ.aG,.string o.aI.cQ.host,.int .i64 o.aI.cQ.port,.bool o.aI.o.aG,.string o.aI.o.host,.int .i64 o.aI.o.port,.string o.aI.path,.string o.aI.query,.string o.aI.method,.slice a9 hs.length c9,.bool o.aI.fF,.string o.aI.body,.bool o.proxy,.string o.text,.string o.user,.string o.pass,.string o.bI,.int .i64 o.cert,.bool o.all,.int .i64 o.n]/\V.cell? ⟨T,287,none⟩=some (.int .i64 (t.steps+1))
theorem eb.fr1{w w':World}{xs:cU}(h:eb k w v xs)(hf:Fr S w w')(hn:xs≠ []->∀b,v.ownBlock=some b->¬S b):eb k w' v xs:=by
 by_cases e:xs=[]
 ·subst e;rcases h.2 with ⟨a,c,e1,_,e3⟩|⟨bk,o,c,e1,h1,h2,h3,h4⟩
  ·exact⟨h.1,Or.inl ⟨a,c,e1,rfl,e3⟩⟩
  ·exact⟨h.1,Or.inr ⟨bk,o,c,e1,h1,h2,cK h3 hf.size,fun j x hx=>by simp at hx⟩⟩
 ·exact h.fr hf (hn e)
theorem Bm{N:Nat}{e:TypeId}(h:V.heap[N]?=some (.cells cs.toArray e (0,0))):V.rangeAt N 0 cs:=fun j v hv=>by
 rw[bj];simp only[World.cell?,h];simpa using hv
theorem Y6{x1 W:World}{o:jB}{hs:List gU}{a9:eZ}{c9 i N:Nat}(hi:i<6)(Y7:di xw a W T {t with steps:=t.steps+1})(HO:gL x1 o hs)(hNT:N≠T)(hd:(t.tab i).does=0)
  (hk9:W.heap[N]?=some (.cells (jB.cells {o with aI:={o.aI with ef:=.slice a9 hs.length c9}}).toArray 33 (0,0)))(Y8:OwnRows a.heap.size 142 2 W (.slice a9 hs.length c9) (hs.map gU.cells)) :
  adA o hs a9 c9 t T N W.drew/\W.drew.there T (17+i*45) 45/\adA o hs a9 c9 t T N (W.drew.setCells T (17+i*45) (mN {fN with does:=1,op:=o.dP hs,mM:=t.steps+1} ⟨{o with aI:={o.aI with ef:=.slice a9 hs.length c9}},hs,.pointer none⟩))/\di xw a (W.drew.setCells T (17+i*45) (mN {fN with does:=1,op:=o.dP hs,mM:=t.steps+1} ⟨{o with aI:={o.aI with ef:=.slice a9 hs.length c9}},hs,.pointer none⟩)) T {(t.put i {fN with does:=1,op:=o.dP hs,mM:=t.steps+1})with steps:=t.steps+1}/\gH W (W.drew.setCells T (17+i*45) (mN {fN with does:=1,op:=o.dP hs,mM:=t.steps+1} ⟨{o with aI:={o.aI with ef:=.slice a9 hs.length c9}},hs,.pointer none⟩)):=by
 have adB:=Y7.dt (az (ae aW W));have ait:=Y8.fr (az (ae aW W)) (fun _ _ h=>h);obtain⟨B2,g2,sv2,sb2,h1,h2,h3,h4⟩:=adB.ex;have c3:=h1.steps;have aiu:W.drew.heap[N]?=some (.cells (jB.cells {o with aI:={o.aI with ef:=.slice a9 hs.length c9}}).toArray 33 (0,0)):=hk9;have q2:=h1.Nf hi {fN with does:=1,op:=o.dP hs,mM:=t.steps+1} ⟨{o with aI:={o.aI with ef:=.slice a9 hs.length c9}},hs,.pointer none⟩
 refine⟨?_,h1.there ab,?_,?_,?_⟩
 ·exact⟨Bm (cs:=jB.cells {o with aI:={o.aI with ef:=.slice a9 hs.length c9}}) aiu,c3⟩
 ·exact⟨Bm (cs:=jB.cells {o with aI:={o.aI with ef:=.slice a9 hs.length c9}}) (q2.2.keep aiu (fun e=>hNT e)),q2.1.steps⟩
 ·exact kp (t':={(t.put i {fN with does:=1,op:=o.dP hs,mM:=t.steps+1})with steps:=t.steps+1}) h1 h2 h3 h4 adB.low adB.fr q2 rfl (Ni (t':={(t.put i {fN with does:=1,op:=o.dP hs,mM:=t.steps+1})with steps:=t.steps+1}) rfl i (fun n hn=>ar hn) (by simp[gB.put]) (by simp[gB.put])) (fun j hj=>by
   by_cases ei:j=i
   ·subst ei;simp only[gB.put,dY];exact⟨fun _=>Or.inr ⟨{HO with ef:=ait.at},rfl,ait⟩,fun e=>by simp at e⟩
   ·simp only[gB.put,ar ei];exact⟨fun vN=>Or.inl ⟨trivial,trivial,trivial,vN⟩,(h4 j hj).2⟩)
 ·obtain⟨d,hdd,_⟩:=h1.eG;exact(eE (az (ae aW W))).tabs hdd q2.2
theorem Vm(o:jB)(hs:List gU)(a9:eZ)(c9:Nat)(st:Int):prog.built 75 [(0,.int .i64 1),(1,.agg #[.int .i64 o.what,.int .i64 o.aI.part,.bool o.aI.cQ.aG,.string o.aI.cQ.host,.int .i64 o.aI.cQ.port,.bool o.aI.o.aG,.string o.aI.o.host,.int .i64 o.aI.o.port,.string o.aI.path,.string o.aI.query,.string o.aI.method,.slice a9 hs.length c9,.bool o.aI.fF,.string o.aI.body,.bool o.proxy,.string o.text,.string o.user,.string o.pass,.string o.bI,.int .i64 o.cert,.bool o.all,.int .i64 o.n]),(3,.int .i64 st)]=some (mN {fN with does:=1,op:=o.dP hs,mM:=st} ⟨{o with aI:={o.aI with ef:=.slice a9 hs.length c9}},hs,.pointer none⟩).toArray:=af
theorem xr{P:Program}{ops:Array Oper}{S:World->Prop}{o:Oper}{a:Act}(hg:o.guard=none)(t:TypeId)(parts:Array (Nat×Operand))(ho:o.op=.build t parts)(cells:bS)(vs:List (Nat×Value))
  (he:(parts.map fun(i,x)=>(i,a.eval x)).toList=vs)(hf:P.built t vs=some cells):YieldsIf P ops S o (.agg cells) a :=
 Or.inl ⟨by simp[Region.wanted,hg],fun w _=>by
  unfold execOp;simp only[ho,Sem.run_bind,run_build w t _ cells (by rw[he];exact hf),Result.andThen_ok];rfl⟩
theorem wM(h:di xw a U T t)(n:Int)(o:jB)(hs:List gU){k:Int}(hk:k<1000000)(nv:fP k t)(ho:gL U o hs)(hnh:hs≠ []->∀b,o.aI.ef.ownBlock=some b->b≠T)(hl:hs.length<100000) :
  aC 12 #[.pointer (some ⟨T,0,none⟩),.int .i64 n,.agg o.cells.toArray] U fun e w'=>e=.returned (zy (uZ t n (o.dP hs)).2)/\di xw a w' T (uZ t n (o.dP hs)).1/\gH U w':=by
 obtain⟨ah,ch,gq⟩:=ho.gO;obtain⟨x1,nz⟩:∃x1,x1=U.alloc (.cells o.cells.toArray 33):=⟨_,rfl⟩;have dn:Fr aW U x1:=by rw[nz];exact(ae aW U).alloc _
 have k1:x1.heap[U.heap.size]?=some (.cells o.cells.toArray 33 (0,0)):=by rw[nz];exact aB _ _
 have hT:T<U.heap.size:=by
  obtain⟨B,g,sv,sb,h1,_⟩:=h.ex;exact h1.lt
 have h':=h.dt dn;have lB:=O dn;have D_:=ho.dt dn;unfold uZ;cases hn:vX n
 ·as_aux_lemma =>
   have HC:=O (Hh x1 T hn);have HH:=O h';rw[dV gq]at nz ⊢;have HX:=O nz;clear hn h nv h' ho D_ gq dn k1 nz hT;go_enter func12,ntmps12;go_wp2_with fail
   rw[<-HX.o];refine HC.o.mono ?_;rintro e u⟨rfl,rfl⟩;unfold zy;go_wp2;go_ret;exact⟨rfl,HH.o,eE lB.o⟩
 ·obtain⟨i,rfl,hi⟩:=Ca hn;obtain⟨B,g,sv,sb,h1,h2,h3,h4⟩:=h'.ex;have HC:=O (Ng x1 T hi);have c:x1.cell? ⟨T,17+i*45,none⟩=some (.int .i64 (t.tab i).does):=h1.tab i hi 0 _ rfl;have c2:=h1.steps;have fz:=h1.free 287;have e1:((i:Int)).toNat=i:=rfl;rw[aA rfl,e1];by_cases hd:(t.tab i).does=0
  ·as_aux_lemma =>
    rw[aA hd];rw[hd]at c;have s1:=nv.steps.1;have s2:=nv.steps.2;have q1:=h1.DK (t.steps+1);have HTB:=O (show gH U (x1.setCell ⟨T,287,none⟩ (.int .i64 (t.steps+1)))from by
     obtain⟨d,hdd,_⟩:=h1.eG;exact(eE dn).tabs hdd q1.2)
    have HI:=O (kp (t':={t with steps:=t.steps+1}) h1 h2 h3 h4 h'.low h'.fr q1 rfl (fun j p hp=>hp) (fun j hj=>⟨fun vN=>Or.inl ⟨rfl,rfl,rfl,vN⟩,(h4 j hj).2⟩));have HO:=O D_;have kN:=q1.2.keep k1 (fun e=>by have e':U.heap.size=T:=e;omega);have HK:=O kN;have y11:(x1.setCell ⟨T,287,none⟩ (.int .i64 (t.steps+1))).cell? ⟨U.heap.size,11,none⟩=some (.slice ah hs.length ch):=by
     simp only[World.cell?,kN,dV gq];rfl
    have Ii:=O (show ox (x1.setCell ⟨T,287,none⟩ (.int .i64 (t.steps+1))) (.slice ah hs.length ch) hs from by
     have g1:=D_.ef;rw[gq]at g1;exact eb.fr1 g1 q1.2 (fun hne b hb=>hnh (fun e=>hne (by rw[e];rfl)) b (by rw[gq];exact hb)))
    have Iq:=O (show([]:cU).length+(hs.map gU.cells).length<1000000000 from bF);have HAN:=O (show a.heap.size<=U.heap.size from h.fr.size);have ur:=O (show a.heap.size<=(x1.setCell ⟨T,287,none⟩ (.int .i64 (t.steps+1))).heap.size by
     have u1:=h'.fr.size;have u2:=q1.2.size;omega)
    rw[dV gq]at nz ⊢;have HX:=O nz;have lg:=O gq;clear hn h nv h1 h2 h3 h4 q1 h' ho D_ dn k1 nz kN gq;go_enter func12,ntmps12;go_wp2_with fail
    rw[<-HX.o];refine HC.o.mono ?_;rintro e u⟨rfl,rfl⟩
    go_wp2_with (at_builtin
                 refine zA rfl _ _ rfl a.heap.size _ [] rfl (dr _ _ _ _) _ (hs.map gU.cells) rfl Ii.o Iq.o ur.o ?_
                 intro v9 w9 uJ Y9
                 rw[List.nil_append]at uJ
                 obtain⟨a9,c9,hv9⟩:=uJ.form
                 rw[aj]at hv9
                 subst hv9
                 have RZ:Fr aW _ w9:=fg (ae _ _) Y9 (fun k hk=>by cases hk)
                 have k9:=RZ.keep HK.o id
                 have z11:w9.cell? ⟨U.heap.size,11,none⟩=some (.slice ah hs.length ch):=by
                   simp only[World.cell?,k9,dV lg.o]
                   rfl
                 have anY:w9.frozen? ⟨U.heap.size,11,none⟩=false:=by simp[World.frozen?,k9])
    have HI9:=O (HI.o.dt RZ);have hk9:(w9.setCell ⟨U.heap.size,11,none⟩ (.slice a9 hs.length c9)).heap[U.heap.size]?=some (.cells (jB.cells {o with aI:={o.aI with ef:=.slice a9 hs.length c9}}).toArray 33 (0,0)):=by
     rw[b_ k9,dV lg.o];rfl
    have R0:Fr (one U.heap.size) w9 (w9.setCell ⟨U.heap.size,11,none⟩ (.slice a9 hs.length c9)):=(ae (one U.heap.size) _).setCell (p:=⟨U.heap.size,11,none⟩) (fun _=>rfl) _;have Y7:=O (HI9.o.aside HAN.o k9 ⟨kZ,ag⟩ ag ag ag ag R0);have Y8:=O (uJ.fr R0 (fun g hg e=>uJ.not k9 ag (by rw[hg];exact aq some e)));have HKW:=O ((HTB.o.trans (eE RZ)).new R0 (ay _))
    clear RZ k9 z11 anY R0 uJ Y9 y11 HTB HI9 HI Ii ur HK HX HC c c2 fz;generalize w9.setCell ⟨U.heap.size,11,none⟩ (.slice a9 hs.length c9)=W at *
    obtain⟨N,hN⟩:∃N,N=U.heap.size:=⟨_,rfl⟩;rw[<-hN]at hk9 ⊢;have eX:=Y6 (t:=t) hi Y7.o HO.o (show N≠T from ab) hd hk9 Y8.o;clear hN hk9 Y7 Y8;obtain⟨X,hX⟩:∃X,X=(mN {fN with does:=1,op:=o.dP hs,mM:=t.steps+1} ⟨{o with aI:={o.aI with ef:=.slice a9 hs.length c9}},hs,.pointer none⟩):=⟨_,rfl⟩;rw[<-hX]at eX;have FQ:X.toArray.all (·.oneCell')=true:=by rw[hX];exact zz _ _ rfl rfl
    have Tc:X.length=45:=by rw[hX];rfl
    obtain⟨f1,f2,f3,f4,f5⟩:=eX;have Ww:=O (HKW.o.trans f5);have HT:=O (show W.drew.there T (17+i*45) X.toArray.size by rw[ba,Tc];exact f2);have Wg:=O FQ;have HXS:=O (show(prog.info? 75).map (·.size)=some X.toArray.size by rw[ba,Tc];kernel_rfl);have Ep:=O f3;have HR:=O f4;have HXV:=O hX;have F1:=O f1;unfold adA at f1;clear hX FQ Tc f2 f3 f4 f5 HKW
    refine wp_region_held_drew (S:=(fun V=>V.rangeAt N 0 [.int .i64 o.what,.int .i64 o.aI.part,.bool o.aI.cQ.aG,.string o.aI.cQ.host,.int .i64 o.aI.cQ.port,.bool o.aI.o.aG,.string o.aI.o.host,.int .i64 o.aI.o.port,.string o.aI.path,.string o.aI.query,.string o.aI.method,.slice a9 hs.length c9,.bool o.aI.fF,.string o.aI.body,.bool o.proxy,.string o.text,.string o.user,.string o.pass,.string o.bI,.int .i64 o.cert,.bool o.all,.int .i64 o.n]/\V.cell? ⟨T,287,none⟩=some (.int .i64 (t.steps+1)))) af (by exact f1) ?_
    intro yl;refine aO 0 37 rfl ?_;refine aO 2 39 rfl ?_;refine aO 3 40 rfl ?_;refine aO 4 41 rfl ?_
    refine uz 1 38 rfl (fR bw 33 (.tmp 5) rfl N 0 rfl ([.int .i64 o.what,.int .i64 o.aI.part,.bool o.aI.cQ.aG,.string o.aI.cQ.host,.int .i64 o.aI.cQ.port,.bool o.aI.o.aG,.string o.aI.o.host,.int .i64 o.aI.o.port,.string o.aI.path,.string o.aI.query,.string o.aI.method,.slice a9 hs.length c9,.bool o.aI.fF,.string o.aI.body,.bool o.proxy,.string o.text,.string o.user,.string o.pass,.string o.bI,.int .i64 o.cert,.bool o.all,.int .i64 o.n]) _ (fun w hw=>hw.1) underlying33 rfl af) ?_
    try simp only[Act.put,sA,sB,sC]
    refine aO 5 42 rfl ?_
    have hbt:prog.built 75 [(0,.int .i64 1),(1,.agg #[.int .i64 o.what,.int .i64 o.aI.part,.bool o.aI.cQ.aG,.string o.aI.cQ.host,.int .i64 o.aI.cQ.port,.bool o.aI.o.aG,.string o.aI.o.host,.int .i64 o.aI.o.port,.string o.aI.path,.string o.aI.query,.string o.aI.method,.slice a9 hs.length c9,.bool o.aI.fF,.string o.aI.body,.bool o.proxy,.string o.text,.string o.user,.string o.pass,.string o.bI,.int .i64 o.cert,.bool o.all,.int .i64 o.n]),(3,.int .i64 (t.steps+1))]=some X.toArray:=by rw[HXV.o];exact Vm o hs a9 c9 (t.steps+1)
    refine uz 6 43 rfl (xr rfl 75 _ rfl X.toArray _ (by simp only[eA,cz,cY];rfl) hbt) ?_;clear hbt
    try simp only[Act.put,sA,sB,sC]
    refine aO 7 44 rfl ?_;refine eK 8 rfl fun K hK=>?_;refine rJ rfl 75 (.tmp 44) (.tmp 43) rfl T (17+i*45) X.toArray rfl rfl HT.o HXS.o Wg.o ?_;refine hK.out _ _ Ep.o ?_;intro wU;clear hK yl wU K;refine wpAnyH_done af ?_ _;go_wp2;go_ret;exact⟨rfl,HR.o,Ww.o⟩
  ·as_aux_lemma =>
    rw[ar hd];have hd0:¬((t.tab i).does:Int)=0:=ab;have HH:=O h';rw[dV gq]at nz ⊢;have HX:=O nz;clear hn h nv h1 h2 h3 h4 h' ho D_ gq dn k1 nz hT;go_enter func12,ntmps12;go_wp2_with fail
    rw[<-HX.o];refine HC.o.mono ?_;rintro e u⟨rfl,rfl⟩;go_wp2;go_ret;exact⟨rfl,HH.o,eE lB.o⟩
end
theorem adD(U:World)(T o:Nat){v:Int}(hc:U.cell? ⟨T,o,none⟩=some (.int .i64 v))(hf:U.frozen? ⟨T,o,none⟩=false)(h0:0<=v)(h1:v<1000000) :
  aC 55 #[.pointer (some ⟨T,o,none⟩)] U fun e w'=>e=.returned (.tuple #[])/\w'=U.setCell ⟨T,o,none⟩ (.int .i64 (v+1)):=by
 go_enter func55,ntmps55;go_wp2;go_end0;exact⟨rfl,rfl⟩
def Ny(e:TypeId):Prop:=(fi e/\e≠97)/\e≠142/\e≠88/\e≠78/\e≠9
theorem Y_:Ny 3:=by unfold Ny fi;decide
theorem Vn:Ny 109:=by unfold Ny fi;decide
theorem Hm:Ny 46:=by unfold Ny fi;decide
section
variable {xw : Option (Nat × d_)} {base : Nat} {a U U' : World} {T : Nat} {t : gB}
theorem xp.far{ws:Nat->Option (Nat×d_)}(h:xp base U ws)(hf:Fr S U U')(o8:∀n,S n->base<=n)(hk:∀n,S n->∃c e,U.heap[n]?=some (.cells c e (0,0))/\fi e/\e≠97/\e≠9):xp base U' ws:=by
 obtain⟨pv,h1,h2⟩:=h;refine⟨pv,fun i B x hi=>(h1 i B x hi).fr hf ?_ (fun k XO e=>?_),h2⟩
 ·intro k hs _;obtain⟨c',e',q1,q2⟩:=hk k hs;exact⟨o8 k hs,fun c f e=>by rw[q1]at e;cases e;exact q2.2.2 rfl⟩
 ·obtain⟨c',e',q1,q2⟩:=hk k e;exact(h1 i B x hi).DJ q1 q2.1 q2.2.1 XO
theorem di.far(h:di xw a U T t)(hf:Fr S U U')(o8:∀n,S n->a.heap.size<=n)(hk:∀n,S n->∃c e,U.heap[n]?=some (.cells c e (0,0))/\Ny e):di xw a U' T t:=by
 obtain⟨B,g,sv,sb,g1,g2,g3,g4⟩:=h.ex;obtain⟨d,hd,_⟩:=g1.eG;have hT:¬S T:=fun e=>by
  obtain⟨c,e',h1,h2⟩:=hk T e;rw[hd]at h1;cases h1;exact h2.2.2.2.1 rfl
 have ho:∀ {v:jB×List gU} {o:kn},jY a.heap.size U v o->jY a.heap.size U' v o:=fun q=>q.rows (q.own.fr hf fun b hb hs=>by
  obtain⟨c,e',h1,h2⟩:=hk b hs;exact q.own.not h1 h2.2.1 hb)
 refine⟨⟨B,g,sv,sb,g1.fr hf hT,g2.far hf o8 (fun n hn=>?_),?_,fun m hm=>⟨fun hd=>ho ((g4 m hm).1 hd),(g4 m hm).2⟩⟩,h.low,h.fr.step hf fun k hk e=>?_⟩
 ·obtain⟨c,e,h1,h2⟩:=hk n hn;exact⟨c,e,h1,h2.1.1,h2.1.2,h2.2.2.2.2⟩
 ·obtain⟨es,e1,e2,e3⟩:=g3;exact⟨es,e1,e2.fr hf fun b hb hs=>by
   obtain⟨c,e',h1,h2⟩:=hk b hs;exact e2.not h1 h2.2.2.1 hb,fun x hx=>ho (e3 x hx)⟩
 ·have:=o8 k e;omega
end
def vd(n:Int):aX:=[.int .i64 n]
theorem KW:(prog.info? 3).map (fun i=>(i.zero,i.size,i.bytes))=some (some (.int .i64 0),1,8):=af
def Hn(base:Nat)(U:World)(V:Nat)(v:Value)(l:List Int)(e:Ending)(w':World):Prop :=
 e=.returned (.tuple #[])/\∃v',w'.heap[V]?=some (.cells #[v'] 109 (0,0))/\OwnRows base 3 1 w' v' (l.map vd)/\Fr (fun k=>k=V\/own v k) U w'
theorem O8{base:Nat}{W:World}{V cap:Nat}{l:List Int}{x:Int}(hg:W.ownsRow base 3 1 (.slice (some ⟨g,0,none⟩) (l.length+1) cap) (l.length+1) ((l.map vd).flatten++[.int .i64 x]))(hV:W.heap[V]?=some (.cells #[v] 109 (0,0)))(hF:Fr (own v) U W) :
  Hn base U V v (l++[x]) (.returned (.tuple #[])) (W.setCell ⟨V,0,none⟩ (.slice (some ⟨g,0,none⟩) (l.length+1) cap)):=by
 have ho:OwnRows base 3 1 W (.slice (some ⟨g,0,none⟩) (l.length+1) cap) ((l++[x]).map vd):=by
  refine⟨fun y hy=>?_,?_⟩
  ·obtain⟨n,_,rfl⟩:=cj.1 hy;exact⟨rfl,fun u hu=>by rcases cV.1 hu with rfl;rfl⟩
  ·have e:((l++[x]).map vd).length=l.length+1:=aQ;have e2:((l++[x]).map vd).flatten=(l.map vd).flatten++[.int .i64 x]:=by simp[vd]
   rw[e,e2];exact hg
 have hs:Fr (one V) W (W.setCell ⟨V,0,none⟩ (.slice (some ⟨g,0,none⟩) (l.length+1) cap)):=(ae (one V) W).setCell (p:=⟨V,0,none⟩) (fun _=>rfl) _;refine⟨rfl,_,b_ hV 0 _,ho.fr hs fun b hb e=>?_,((hF.mono fun _ _ h=>Or.inr h).step hs fun k hk e=>Or.inl e)⟩;exact ho.not hV ag (by rw[hb];exact aq some e)
section
variable {base : Nat} {U : World} {T o V : Nat} {v : Value} {l : List Int} {x : Int}
theorem adF(hV:U.heap[V]?=some (.cells #[v] 109 (0,0)))(hx:U.cell? ⟨T,o,none⟩=some (.int .i64 x))(cO:OwnRows base 3 1 U v (l.map vd))(hb:base<=U.heap.size)(hl:l.length<1000) :
  aC 50 #[.pointer (some ⟨T,o,none⟩),.pointer (some ⟨V,0,none⟩)] U (Hn base U V v (l++[x])):=by
 obtain⟨i0,ri,oZ,kI,kS⟩:=info_parts KW;obtain⟨av,cv,hv⟩:=cO.form;rw[aj]at hv;subst hv;have d1:U.cell? ⟨V,0,none⟩=some (.slice av l.length cv):=by simp[World.cell?,hV]
 have e1:U.frozen? ⟨V,0,none⟩=false:=by simp[World.frozen?,hV]
 have hVl:=bg hV;have hne:(Value.slice av l.length cv).ownBlock≠some V:=cO.not hV ag;have HV:=O hV;have HO:=O (show U.ownsRow base 3 1 (.slice av l.length cv) l.length (l.map vd).flatten by
  have h:=cO.2
  rwa [aj]at h)
 clear hV cO;go_enter func50,ntmps50
 go_region_law ((with_reducible refine mG ⟨some 8,_,_,_,_,_⟩ ?_)
                refine step_append_lies _ bw _ _ _ bw base 3 i0 _ 1 8 underlying109 ri oZ kI kS rfl ab (.slice av l.length cv) l.length _ bw (by have Im:=HO.o;repeat(first|exact Im|apply World.ownsRow.alloc|apply World.ownsRow.drew)) ⟨U.heap.size,0,none⟩ 1 1 [.int .i64 x] bw bw (kB U [.int .i64 x] _) (by intro u hu;rcases cV.1 hu with rfl;rfl) ab fl ab bF (U.heap.size+1) aQ ?_
                intro gg cap w4 eU jk dL JY
                have jH:Fr (own (.slice av l.length cv)) U w4:=fg (by repeat(first|exact ae _ _|apply az|apply bq)) jk (fun _ hk _=>hk)
                have b4:=jH.keep HV.o (fun e=>hne e)
                have k4:w4.cell? ⟨V,0,none⟩=some (.slice av l.length cv):=by simp[World.cell?,b4]
                have e4:w4.frozen? ⟨V,0,none⟩=false:=by simp[World.frozen?,b4])
 all_goals
  go_end0;exact O8 eU b4 jH
theorem adG(hV:U.heap[V]?=some (.cells #[v] 109 (0,0)))(hx:U.cell? ⟨T,o,none⟩=some (.int .i64 x))(cO:OwnRows base 3 1 U v (l.map vd))(hb:base<=U.heap.size)(hl:l.length<1000) :
  aC 51 #[.pointer (some ⟨T,o,none⟩),.pointer (some ⟨V,0,none⟩)] U (Hn base U V v (l++[x])):=by
 obtain⟨i0,ri,oZ,kI,kS⟩:=info_parts KW;obtain⟨av,cv,hv⟩:=cO.form;rw[aj]at hv;subst hv;have d1:U.cell? ⟨V,0,none⟩=some (.slice av l.length cv):=by simp[World.cell?,hV]
 have e1:U.frozen? ⟨V,0,none⟩=false:=by simp[World.frozen?,hV]
 have hVl:=bg hV;have hne:(Value.slice av l.length cv).ownBlock≠some V:=cO.not hV ag;have HV:=O hV;have HO:=O (show U.ownsRow base 3 1 (.slice av l.length cv) l.length (l.map vd).flatten by
  have h:=cO.2
  rwa [aj]at h)
 clear hV cO;go_enter func51,ntmps51
 go_region_law ((with_reducible refine mG ⟨some 8,_,_,_,_,_⟩ ?_)
                refine step_append_lies _ bw _ _ _ bw base 3 i0 _ 1 8 underlying109 ri oZ kI kS rfl ab (.slice av l.length cv) l.length _ bw (by have Im:=HO.o;repeat(first|exact Im|apply World.ownsRow.alloc|apply World.ownsRow.drew)) ⟨U.heap.size,0,none⟩ 1 1 [.int .i64 x] bw bw (kB U [.int .i64 x] _) (by intro u hu;rcases cV.1 hu with rfl;rfl) ab fl ab bF (U.heap.size+1) aQ ?_
                intro gg cap w4 eU jk dL JY
                have jH:Fr (own (.slice av l.length cv)) U w4:=fg (by repeat(first|exact ae _ _|apply az|apply bq)) jk (fun _ hk _=>hk)
                have b4:=jH.keep HV.o (fun e=>hne e)
                have k4:w4.cell? ⟨V,0,none⟩=some (.slice av l.length cv):=by simp[World.cell?,b4]
                have e4:w4.frozen? ⟨V,0,none⟩=false:=by simp[World.frozen?,b4])
 all_goals
  go_end0;exact O8 eU b4 jH
end
def yf(o:kn)(k:Nat):List (Nat×Nat):=([0,1,2,3].take k).filterMap fun i=>if(eN o).1.testBit i then some (if i=3 then 0 else o.part.toNat,i)else none
theorem zB(hk:k<4)(hb:(eN o).1.testBit k=false):yf o (k+1)=yf o k:=by
 rcases(show k=0\/k=1\/k=2\/k=3 from ab)with rfl|rfl|rfl|rfl<;>simp[yf,List.filterMap_cons,hb]
theorem KX(hk:k<4)(hb:(eN o).1.testBit k=true):yf o (k+1)=yf o k++[(if k=3 then 0 else o.part.toNat,k)]:=by
 rcases(show k=0\/k=1\/k=2\/k=3 from ab)with rfl|rfl|rfl|rfl
 ·simp[yf,hb]
 ·have e:∀f:Nat->Option (Nat×Nat),([0,1]:List Nat).filterMap f=[0].filterMap f++[1].filterMap f:=fun f=>iR (l:=[0]) (l':=[1]);simp only[yf,List.take];rw[e];simp[hb]
 ·have e:∀f:Nat->Option (Nat×Nat),([0,1,2]:List Nat).filterMap f=[0,1].filterMap f++[2].filterMap f:=fun f=>iR (l:=[0,1]) (l':=[2]);simp only[yf,List.take];rw[e];simp[hb]
 ·have e:∀f:Nat->Option (Nat×Nat),([0,1,2,3]:List Nat).filterMap f=[0,1,2].filterMap f++[3].filterMap f:=fun f=>iR (l:=[0,1,2]) (l':=[3]);simp only[yf,List.take];rw[e];simp[hb]
theorem Re(o:kn)(k:Nat):∃r,mQ o=yf o k++r:=⟨([0,1,2,3].drop k).filterMap fun i=>if(eN o).1.testBit i then some (if i=3 then 0 else o.part.toNat,i)else none,by
 unfold yf mQ;rw[<-iR,fE]⟩
theorem Vo(hk:k<4)(hb:(eN o).1.testBit k=true):∃r,mQ o=yf o k++(if k=3 then 0 else o.part.toNat,k) :: r:=by
 obtain⟨r,hr⟩:=Re o (k+1);exact⟨r,by rw[hr,KX hk hb,cH,List.singleton_append]⟩
theorem Nz(o:kn):(eN o).1=0\/(((eN o).1=1\/(eN o).1=4\/(eN o).1=7\/(eN o).1=8\/(eN o).1=10)/\o.right=true):=by
 cases hr:o.right
 ·exact Or.inl (by rw[FT hr])
 ·unfold eN;rw[hr];simp only[dY]
  repeat' split
  all_goals simp
def Vp(R:List (Nat×Nat)->World->Prop)(o:kn)(bx:Nat)(X:bS)(i:Value)(wr:World):Prop :=
 ∃k:Nat,k<=4/\i=.int .i64 k/\R (yf o k) wr/\wr.heap[bx]?=some (.cells X 33 (0,0))
def uA(R:List (Nat×Nat)->World->Prop)(o:kn)(T g:Nat)(cap:bS):Prop :=
 ∀d c r,mQ o=d++c :: r->∀V:World,R d V->aC g (#[.pointer (some ⟨T,1+c.1*4+c.2,none⟩)]++cap) V fun e w'=>e=.returned (.tuple #[])/\R (d++[c]) w'/\∀(n:Nat) (k:bS),V.heap[n]?=some (.cells k 33 (0,0))->w'.heap[n]?=some (.cells k 33 (0,0))
theorem Vq{R:List (Nat×Nat)->World->Prop}{cap:bS}{bx:Nat}{X:bS}(iM:uA R o T g cap)(hk:k<4)(hb:(eN o).1.testBit k=true){p:Nat}(hp:(if k=3 then 0 else o.part.toNat)=p)(hR:R (yf o k) V)(rj:V.heap[bx]?=some (.cells X 33 (0,0))) :
  aC g (#[.pointer (some ⟨T,1+p*4+k,none⟩)]++cap) V fun e w'=>e=.returned (.tuple #[])/\R (yf o (k+1)) w'/\w'.heap[bx]?=some (.cells X 33 (0,0)):=by
 obtain⟨r,hr⟩:=Vo hk hb;rw[hp]at hr;refine(iM _ _ _ hr V hR).mono ?_;rintro e w'⟨h1,h2,h3⟩;rw[KX hk hb,hp];exact⟨h1,h2,h3 _ _ rj⟩
theorem Rf(U:World)(T:Nat)(o:jB)(hs:List gU)(g:Nat)(cap:bS)(_eg:∀args w,(callFunc g args).run prog w=.ok (.enter g args) w)(R:List (Nat×Nat)->World->Prop)(h0:R [] U)(cN:∀d V V',R d V->Fr aW V V'->R d V')(iM:uA R (o.dP hs) T g cap)(ho:gL U o hs)(hc:(eN (o.dP hs)).1=0) :
  aC 49 #[.pointer (some ⟨T,0,none⟩),.agg o.cells.toArray,.func (.func g) #[] cap] U fun e w'=>e=.returned (.tuple #[])/\R (mQ (o.dP hs)) w':=by
 obtain⟨ah,ch,gq⟩:=ho.gO;obtain⟨x1,nz⟩:∃x1,x1=U.alloc (.cells o.cells.toArray 33):=⟨_,rfl⟩;have dn:Fr aW U x1:=by rw[nz];exact(ae aW U).alloc _
 have HK:=O (show x1.heap[U.heap.size]?=some (.cells o.cells.toArray 33 (0,0))by rw[nz];exact aB _ _);have HC:=O (AE x1 o hs (ho.dt dn));have HR1:=O (cN _ _ _ h0 dn);have lT:=O iM;have uf:=O cN;rw[hc]at HC;have wT:=O hc;rw[dV gq]at nz HK HC ⊢;have HX:=O nz;have lg:=O gq;clear gq dn nz iM cN h0 ho hc;go_enter func49,ntmps49
 have u_:=O (aB U (.cells #[.int .i64 o.what,.int .i64 o.aI.part,.bool o.aI.cQ.aG,.string o.aI.cQ.host,.int .i64 o.aI.cQ.port,.bool o.aI.o.aG,.string o.aI.o.host,.int .i64 o.aI.o.port,.string o.aI.path,.string o.aI.query,.string o.aI.method,.slice ah hs.length ch,.bool o.aI.fF,.string o.aI.body,.bool o.proxy,.string o.text,.string o.user,.string o.pass,.string o.bI,.int .i64 o.cert,.bool o.all,.int .i64 o.n] 33))
 go_wp2_with (first|((with_reducible refine dv 11 ?_);refine aJ rfl 33 (.tmp 4) rfl U.heap.size rfl _ #[.int .i64 o.what,.int .i64 o.aI.part,.bool o.aI.cQ.aG,.string o.aI.cQ.host,.int .i64 o.aI.cQ.port,.bool o.aI.o.aG,.string o.aI.o.host,.int .i64 o.aI.o.port,.string o.aI.path,.string o.aI.query,.string o.aI.method,.slice ah hs.length ch,.bool o.aI.fF,.string o.aI.body,.bool o.proxy,.string o.text,.string o.user,.string o.pass,.string o.bI,.int .i64 o.cert,.bool o.all,.int .i64 o.n] (0,0) _ u_.o underlying33 rfl af ?_)|fail)
 rw[<-HX.o];refine HC.o.mono ?_;rintro e u⟨rfl,hu⟩;have LS:=O (uf.o _ _ _ HR1.o hu);have qx:=O (hu.keep HK.o id);clear hu HR1 HK HC HX u_;generalize U.heap.size=bx at *
 go_wp2
 go_loopw[15] (Vp R (o.dP hs) bx #[.int .i64 o.what,.int .i64 o.aI.part,.bool o.aI.cQ.aG,.string o.aI.cQ.host,.int .i64 o.aI.cQ.port,.bool o.aI.o.aG,.string o.aI.o.host,.int .i64 o.aI.o.port,.string o.aI.path,.string o.aI.query,.string o.aI.method,.slice ah hs.length ch,.bool o.aI.fF,.string o.aI.body,.bool o.proxy,.string o.text,.string o.user,.string o.pass,.string o.bI,.int .i64 o.cert,.bool o.all,.int .i64 o.n]) (fun i _=>4-(intOf i).toNat)
 case atStart=>exact⟨0,aS _,rfl,LS.o,qx.o⟩
 case round =>
  obtain⟨k,hk,rfl,hR,rj⟩:=hrel;clear LS qx;have HR:=O hR;have HB:=O rj;clear hR rj;rcases(show k=0\/k=1\/k=2\/k=3\/k=4 from ab)with rfl|rfl|rfl|rfl|rfl
  ·have HN:=O (zB (o:=o.dP hs) (k:=0) ag (by rw[wT.o];decide));go_wp2;go_roundw
   case rel=>exact⟨1,ab,bf,by rw[HN.o];exact HR.o,HB.o⟩
   case measure=>simp[intOf]
  ·have HN:=O (zB (o:=o.dP hs) (k:=1) ag (by rw[wT.o];decide));go_wp2;go_roundw
   case rel=>exact⟨2,ab,bf,by rw[HN.o];exact HR.o,HB.o⟩
   case measure=>simp[intOf]
  ·have HN:=O (zB (o:=o.dP hs) (k:=2) ag (by rw[wT.o];decide));go_wp2;go_roundw
   case rel=>exact⟨3,ab,bf,by rw[HN.o];exact HR.o,HB.o⟩
   case measure=>simp[intOf]
  ·have HN:=O (zB (o:=o.dP hs) (k:=3) ag (by rw[wT.o];decide));go_wp2;go_roundw
   case rel=>exact⟨4,ab,bf,by rw[HN.o];exact HR.o,HB.o⟩
   case measure=>simp[intOf]
  ·go_wp2;go_end0;exact⟨rfl,HR.o⟩
theorem NA(U:World)(T:Nat)(o:jB)(hs:List gU)(g:Nat)(cap:bS)(eg:∀args w,(callFunc g args).run prog w=.ok (.enter g args) w)(R:List (Nat×Nat)->World->Prop)(h0:R [] U)(cN:∀d V V',R d V->Fr aW V V'->R d V')(iM:uA R (o.dP hs) T g cap)(ho:gL U o hs)(hc:(eN (o.dP hs)).1=1\/(eN (o.dP hs)).1=4\/(eN (o.dP hs)).1=7\/(eN (o.dP hs)).1=8\/(eN (o.dP hs)).1=10)(hr:(o.dP hs).right=true) :
  aC 49 #[.pointer (some ⟨T,0,none⟩),.agg o.cells.toArray,.func (.func g) #[] cap] U fun e w'=>e=.returned (.tuple #[])/\R (mQ (o.dP hs)) w':=by
 rcases hc with hc|hc|hc|hc|hc
 all_goals
  obtain⟨ah,ch,gq⟩:=ho.gO;obtain⟨x1,nz⟩:∃x1,x1=U.alloc (.cells o.cells.toArray 33):=⟨_,rfl⟩;have dn:Fr aW U x1:=by rw[nz];exact(ae aW U).alloc _
  have HK:=O (show x1.heap[U.heap.size]?=some (.cells o.cells.toArray 33 (0,0))by rw[nz];exact aB _ _);have HC:=O (AE x1 o hs (ho.dt dn));have HR1:=O (cN _ _ _ h0 dn);have lT:=O iM;have uf:=O cN;rw[hc]at HC;have wT:=O hc;obtain⟨p0,p4⟩:=ko hr;obtain⟨p,hp⟩:∃p:Nat,o.aI.part=(p:Int):=⟨o.aI.part.toNat,by have:(o.dP hs).part=o.aI.part:=rfl;omega⟩;have hp4:p<4:=by have:(o.dP hs).part=o.aI.part:=rfl;omega
  have HP:=O hp;have HPT:=O (show(o.dP hs).part.toNat=p by have:(o.dP hs).part=o.aI.part:=rfl;omega);have q1:(p:Int)<4:=ab;have q2:(0:Int)<=(p:Int):=ab;have q3:¬(p:Int)<0:=ab;have q4:¬(4:Int)<=(p:Int):=ab;rw[dV gq]at nz HK HC ⊢;have HX:=O nz;have lg:=O gq;clear gq dn nz iM cN h0 ho hc hr p0 p4 hp;go_enter func49,ntmps49
  have u_:=O (aB U (.cells #[.int .i64 o.what,.int .i64 o.aI.part,.bool o.aI.cQ.aG,.string o.aI.cQ.host,.int .i64 o.aI.cQ.port,.bool o.aI.o.aG,.string o.aI.o.host,.int .i64 o.aI.o.port,.string o.aI.path,.string o.aI.query,.string o.aI.method,.slice ah hs.length ch,.bool o.aI.fF,.string o.aI.body,.bool o.proxy,.string o.text,.string o.user,.string o.pass,.string o.bI,.int .i64 o.cert,.bool o.all,.int .i64 o.n] 33))
  go_wp2_with (first|((with_reducible refine dv 11 ?_);refine aJ rfl 33 (.tmp 4) rfl U.heap.size rfl _ #[.int .i64 o.what,.int .i64 o.aI.part,.bool o.aI.cQ.aG,.string o.aI.cQ.host,.int .i64 o.aI.cQ.port,.bool o.aI.o.aG,.string o.aI.o.host,.int .i64 o.aI.o.port,.string o.aI.path,.string o.aI.query,.string o.aI.method,.slice ah hs.length ch,.bool o.aI.fF,.string o.aI.body,.bool o.proxy,.string o.text,.string o.user,.string o.pass,.string o.bI,.int .i64 o.cert,.bool o.all,.int .i64 o.n] (0,0) _ u_.o underlying33 rfl af ?_)|fail)
  rw[<-HX.o];refine HC.o.mono ?_;rintro e u⟨rfl,hu⟩;have LS:=O (uf.o _ _ _ HR1.o hu);have qx:=O (hu.keep HK.o id);clear hu HR1 HK HC HX u_;generalize U.heap.size=bx at *
  go_wp2
  go_loopw[15] (Vp R (o.dP hs) bx #[.int .i64 o.what,.int .i64 o.aI.part,.bool o.aI.cQ.aG,.string o.aI.cQ.host,.int .i64 o.aI.cQ.port,.bool o.aI.o.aG,.string o.aI.o.host,.int .i64 o.aI.o.port,.string o.aI.path,.string o.aI.query,.string o.aI.method,.slice ah hs.length ch,.bool o.aI.fF,.string o.aI.body,.bool o.proxy,.string o.text,.string o.user,.string o.pass,.string o.bI,.int .i64 o.cert,.bool o.all,.int .i64 o.n]) (fun i _=>4-(intOf i).toNat)
  case atStart=>exact⟨0,aS _,rfl,LS.o,qx.o⟩
  case round =>
   obtain⟨k,hk,rfl,hR,rj⟩:=hrel;clear LS qx;have HR:=O hR;have HB:=O rj;clear hR rj;have c1:wr.cell? ⟨bx,1,none⟩=some (.int .i64 p):=by simp[World.cell?,HB.o,HP.o]
   by_cases Jv:k<4
   ·cases hb:(eN (o.dP hs)).1.testBit k
    ·have HN:=O (zB Jv hb);rw[wT.o]at hb;rcases(show k=0\/k=1\/k=2\/k=3 from ab)with rfl|rfl|rfl|rfl
     all_goals first
      |exact absurd hb ag
      |(clear hb
        go_wp2
        go_roundw
        case rel=>first|exact⟨1,ab,bf,by rw[HN.o];exact HR.o,HB.o⟩|exact⟨2,ab,bf,by rw[HN.o];exact HR.o,HB.o⟩|exact⟨3,ab,bf,by rw[HN.o];exact HR.o,HB.o⟩|exact⟨4,ab,bf,by rw[HN.o];exact HR.o,HB.o⟩
        case measure=>simp[intOf])
    ·have hq:∃q:Nat,q=(if k=3 then 0 else(o.dP hs).part.toNat):=⟨_,rfl⟩;obtain⟨q,hq⟩:=hq;have aix:=O (Vq (p:=q) lT.o Jv hb hq.symm HR.o HB.o);rw[HPT.o]at hq;rw[wT.o]at hb;rcases(show k=0\/k=1\/k=2\/k=3 from ab)with rfl|rfl|rfl|rfl
     all_goals first
      |exact absurd hb ag
      |(clear hb HR HB
        first|rw[ar ag]at hq|rw[aA rfl]at hq
        subst hq
        go_wp2_with fail
        refine aix.o.mono ?_
        rintro e w1⟨rfl,g1,g2⟩
        go_wp2
        go_roundw
        case rel=>first|exact⟨1,ab,bf,g1,g2⟩|exact⟨2,ab,bf,g1,g2⟩|exact⟨3,ab,bf,g1,g2⟩|exact⟨4,ab,bf,g1,g2⟩
        case measure=>simp[intOf])
   ·obtain rfl:k=4:=ab;go_wp2;go_end0;exact⟨rfl,HR.o⟩
theorem v8(U:World)(T:Nat)(o:jB)(hs:List gU)(g:Nat)(cap:bS)(eg:∀args w,(callFunc g args).run prog w=.ok (.enter g args) w)(R:List (Nat×Nat)->World->Prop)(h0:R [] U)(cN:∀d V V',R d V->Fr aW V V'->R d V')(iM:uA R (o.dP hs) T g cap)(ho:gL U o hs) :
  aC 49 #[.pointer (some ⟨T,0,none⟩),.agg o.cells.toArray,.func (.func g) #[] cap] U fun e w'=>e=.returned (.tuple #[])/\R (mQ (o.dP hs)) w':=by
 rcases Nz (o.dP hs)with hc|⟨hc|hc|hc|hc|hc,hr⟩
 ·exact Rf U T o hs g cap eg R h0 cN iM ho hc
 all_goals exact NA U T o hs g cap eg R h0 cN iM ho (by simp[hc]) hr
theorem jd{P:Program}{fn:Func}{p u v:Tmp}{ty:TypeId}(h:fn.results= #[.cell p ty,.tmp u,.tmp v])(tmps:bS)(w:World)(g:Nat)(t:TypeId)(cs:bS)(fr:Nat×Nat)(d:TypeDesc)
  (hp:tmps.getD p undef=.pointer (some ⟨g,0,none⟩))(hg:w.heap[g]?=some (.cells cs t fr))
  (hu:P.underlying ty=some d)(hd:(match d with| .struct _| .array _ _=>true|_=>false)=true)(hi:(P.info? ty).map (·.size)=some cs.size) :
  (results fn tmps).run P w=.ok (.tuple #[.agg cs,tmps.getD u undef,tmps.getD v undef]) w:=by
 have hp':tmps[p]?.getD undef=.pointer (some ⟨g,0,none⟩):=by simpa using hp
 simp[results,h,hp',asAddr,run_loadVar_row w g t ty cs fr d hg hu hd hi,Result.andThen]
def R2(n:Nat)(o:jB)(ah:eZ)(nh ch:Nat)(r:ky)(mM fin:Int):aX:=[.int .i64 n,.int .i64 o.what,.int .i64 o.aI.part,.bool o.aI.cQ.aG,.string o.aI.cQ.host,.int .i64 o.aI.cQ.port,.bool o.aI.o.aG,.string o.aI.o.host,.int .i64 o.aI.o.port,.string o.aI.path,.string o.aI.query,.string o.aI.method,.slice ah nh ch,.bool o.aI.fF,.string o.aI.body,.bool o.proxy,.string o.text,.string o.user,.string o.pass,.string o.bI,.int .i64 o.cert,.bool o.all,.int .i64 o.n,.int .i64 r.what,.string r.head,.int .i64 r.cert,.int .i64 mM,.int .i64 fin]
theorem Ho{n:Nat}{o:jB}{hs:List gU}(h:o.aI.ef=.slice ah hs.length ch)(op:kn)(r:ky)(mM fin:Int):KA (⟨n,op,r,mM,fin⟩,(o,hs))=R2 n o ah hs.length ch r mM fin:=by
 unfold KA jB.cells fX.cells;rw[h];rfl
theorem Vr{o:jB}{nh:Nat}(h:o.aI.ef=.slice ah nh ch):o.cells=[.int .i64 o.what,.int .i64 o.aI.part,.bool o.aI.cQ.aG,.string o.aI.cQ.host,.int .i64 o.aI.cQ.port,.bool o.aI.o.aG,.string o.aI.o.host,.int .i64 o.aI.o.port,.string o.aI.path,.string o.aI.query,.string o.aI.method,.slice ah nh ch,.bool o.aI.fF,.string o.aI.body,.bool o.proxy,.string o.text,.string o.user,.string o.pass,.string o.bI,.int .i64 o.cert,.bool o.all,.int .i64 o.n]:=by
 unfold jB.cells fX.cells;rw[h];rfl
theorem Hp(n:Nat)(o:jB)(ah:eZ)(nh ch:Nat)(r:ky)(mM fin:Int):∀u∈R2 n o ah nh ch r mM fin,u.oneCell'=true:=by
 intro u hu;unfold R2 at hu;simp only[bu,cg,dS]at hu;rcases hu with rfl|rfl|rfl|rfl|rfl|rfl|rfl|rfl|rfl|rfl|rfl|rfl|rfl|rfl|rfl|rfl|rfl|rfl|rfl|rfl|rfl|rfl|rfl|rfl|rfl|rfl|rfl|rfl<;>rfl
theorem Y'(n:Nat)(o:jB)(ah:eZ)(nh ch:Nat)(r:ky)(mM fin:Int):prog.built 88 [(0,.int .i64 n),(1,.agg #[.int .i64 o.what,.int .i64 o.aI.part,.bool o.aI.cQ.aG,.string o.aI.cQ.host,.int .i64 o.aI.cQ.port,.bool o.aI.o.aG,.string o.aI.o.host,.int .i64 o.aI.o.port,.string o.aI.path,.string o.aI.query,.string o.aI.method,.slice ah nh ch,.bool o.aI.fF,.string o.aI.body,.bool o.proxy,.string o.text,.string o.user,.string o.pass,.string o.bI,.int .i64 o.cert,.bool o.all,.int .i64 o.n]),(2,.agg #[.int .i64 r.what,.string r.head,.int .i64 r.cert]),(3,.int .i64 mM),(4,.int .i64 fin)]=some (R2 n o ah nh ch r mM fin).toArray:=af
def DS:bS:= #[.int .i64 0,.int .i64 0,.int .i64 0,.bool false,.string ⟨#[]⟩,.int .i64 0,.bool false,.string ⟨#[]⟩,.int .i64 0,.string ⟨#[]⟩,.string ⟨#[]⟩,.string ⟨#[]⟩,.slice none 0 0,.bool false,.string ⟨#[]⟩,.bool false,.string ⟨#[]⟩,.string ⟨#[]⟩,.string ⟨#[]⟩,.string ⟨#[]⟩,.int .i64 0,.bool false,.int .i64 0,.int .i64 0,.string ⟨#[]⟩,.int .i64 0,.int .i64 0,.int .i64 0]
theorem Hq:(prog.info? 88).map (fun i=>(i.zero,i.size,i.bytes))=some (some (.agg DS),28,328):=af
theorem NB(n:Nat)(o:jB)(ah:eZ)(nh ch:Nat)(r:ky)(mM fin:Int):Instr.fill (fun i=>some (i*28,28)) ((Array.range (1*28)).map ((Value.agg DS).cells[· %(Value.agg DS).cells.size]!)) [(0,.agg (R2 n o ah nh ch r mM fin).toArray)]=some (R2 n o ah nh ch r mM fin).toArray:=af
theorem uM{P:Program}{ops:Array Oper}{o:Oper}{a:Act}{w:World}{K:Act->World->Prop}{Q:Exit->Act->World->Prop}{E:Prop}(ym:o.guard=none)(t e:TypeId)(len:Nat)(parts:Array (Nat×Operand))(ho:o.op=.buildSlice t len parts)
  (cells:bS)(ie:TypeInfo)(z:Value)(vs:List (Nat×Value))(he:(parts.map fun(i,x)=>(i,a.eval x)).toList=vs)
  (hu:P.underlying t=some (.slice e))(hie:P.info? e=some ie)(hz:ie.zero=some z)(Gs:¬len*ie.size>2^24)(pM:¬len*ie.size=0)
  (hf:Instr.fill (fun i=>some (i*ie.size,ie.size)) ((Array.range (len*ie.size)).map (z.cells[· %z.cells.size]!)) vs=some cells)
  (h:K (a.put o.dst (.slice (some ⟨w.heap.size,0,none⟩) len len)) (w.alloc (.cells cells e))):if Region.wanted o (yielded ops a.tmps)=true then Oper.wp P o a w K Q else E:=by
 have hw:Region.wanted o (yielded ops a.tmps)=true:=by simp[Region.wanted,ym]
 rw[aA hw];exact wp_buildSlice t e len parts ho cells ie z hu hie hz Gs pM (by rw[he];exact hf) h
theorem ka{b o:Nat}{p q r:aX}(h:U.rangeAt b o (p++(q++r))):U.rangeAt b (o+p.length) q:=fun j v hj=>by
 have hl:=(List.getElem?_eq_some_iff.1 hj).1;have:=h (p.length+j) v (by rw[List.getElem?_append_right ab,show p.length+j-p.length=j from ab,List.getElem?_append_left hl];exact hj)
 rwa [<-Nat.add_assoc]at this
theorem yg{o:Nat}(h:U.rangeAt T o cs)(hk:o+cs.length<=k):(U.setCell ⟨T,k,none⟩ v).rangeAt T o cs:=bV h T k [v] (Or.inr (Or.inl hk))
section
variable {xw : Option (Nat × d_)} {a U U' : World} {T : Nat} {t : gB}
def Za(o:jB)(ah:eZ)(nh ch:Nat)(r:ky)(mM steps:Int)(i T R:Nat)(V:World):Prop:=V.rangeAt T (17+i*45+1) [.int .i64 o.what,.int .i64 o.aI.part,.bool o.aI.cQ.aG,.string o.aI.cQ.host,.int .i64 o.aI.cQ.port,.bool o.aI.o.aG,.string o.aI.o.host,.int .i64 o.aI.o.port,.string o.aI.path,.string o.aI.query,.string o.aI.method,.slice ah nh ch,.bool o.aI.fF,.string o.aI.body,.bool o.proxy,.string o.text,.string o.user,.string o.pass,.string o.bI,.int .i64 o.cert,.bool o.all,.int .i64 o.n]/\V.rangeAt R 0 [.int .i64 r.what,.string r.head,.int .i64 r.cert]/\V.cell? ⟨T,17+i*45+24,none⟩=some (.int .i64 mM)/\V.cell? ⟨T,287,none⟩=some (.int .i64 steps)
theorem fU.Za{B:Nat}{g:Nat->qo}{sv:Value}(h:fU U T B g sv t){i:Nat}(hi:i<6){ah:eZ}{nh ch R:Nat}{r:ky}(hh:(g i).o.aI.ef=.slice ah nh ch)(hR:U.heap[R]?=some (.cells (pW r).toArray 46 (0,0))) :
  Za (g i).o ah nh ch r (t.tab i).mM t.steps i T R U:=by
 refine⟨?_,Bm (cs:=pW r) hR,h.tab i hi 24 _ rfl,h.steps⟩;have:=ka (p:=[.int .i64 (t.tab i).does]) (q:=(g i).o.cells) (h.tab i hi);rw[Vr hh]at this;exact this
theorem fU.more{B:Nat}{g:Nat->qo}{sv v':Value}{sb:Nat->Nat}{es:List (U5×(jB×List gU))}(h1:fU U T B g sv t)(h2:xp a.heap.size U (oY xw B sb t))(Pm:es.map (·.1)=t.fO)(lY:OwnRows a.heap.size 88 28 U sv (es.map KA))(BJ:∀x∈es,jY a.heap.size U x.2 x.1.op)
  (h4:∀n,n<6->((t.tab n).does≠0->jY a.heap.size U ((g n).o,(g n).hs) (t.tab n).op)/\((t.tab n).does=2\/(t.tab n).does=3->(g n).sp=.pointer (some ⟨sb n,0,none⟩)))(kR:a.heap.size<=T)(cN:Fr aW a U)
  {i:Nat}(hi:i<6)(hd:(t.tab i).does≠0)(r:ky)(hF:Fr (own sv) U U')(cO:OwnRows a.heap.size 88 28 U' v' (es.map KA++[KA (⟨i,(t.tab i).op,r,(t.tab i).mM,t.steps⟩,((g i).o,(g i).hs))])) :
  fU U' T B g sv t/\di xw a ((U'.setCell ⟨T,288,none⟩ v').setCells T (17+i*45) (mN fN zeroV)) T (mA t i r)/\(U'.setCell ⟨T,288,none⟩ v').there T (17+i*45) 45/\Fr (one T) U' ((U'.setCell ⟨T,288,none⟩ v').setCells T (17+i*45) (mN fN zeroV))/\gH U ((U'.setCell ⟨T,288,none⟩ v').setCells T (17+i*45) (mN fN zeroV)):=by
 obtain⟨d,hbd,_⟩:=h1.eG;have hk:∀n,own sv n->∃c,U.heap[n]?=some (.cells c 88 (0,0)):=fun n hn=>lY.AY hn;have hT:¬own sv T:=fun e=>by
  obtain⟨c,hc⟩:=hk T e;rw[hbd]at hc;cases hc
 have b1:=h1.fr hF hT;have b2:=h2.far hF (fun n hn=>lY.block n hn) (fun n hn=>by
  obtain⟨c,hc⟩:=hk n hn;exact⟨c,_,hc,uy.1,uy.2,ag⟩)
 have ho:∀ {v:jB×List gU} {o:kn},jY a.heap.size U v o->jY a.heap.size U' v o:=fun q=>q.rows (q.own.fr hF fun b hb hs=>by
  obtain⟨c,hc⟩:=hk b hs;exact q.own.not hc ag hb)
 have b3:qy a.heap.size U' v' (t.fO++[⟨i,(t.tab i).op,r,(t.tab i).mM,t.steps⟩]):=by
  refine⟨es++[(⟨i,(t.tab i).op,r,(t.tab i).mM,t.steps⟩,((g i).o,(g i).hs))],by rw[bD,Pm];rfl,by rw[bD];exact cO,fun x hx=>?_⟩;rcases bP.1 hx with hx|hx
  ·exact ho (BJ x hx)
  ·rcases cV.1 hx with rfl
   exact ho ((h4 i hi).1 hd)
 have q1:=b1.U7 v' (t.fO++[⟨i,(t.tab i).op,r,(t.tab i).mM,t.steps⟩]);have q2:=q1.1.Nf hi fN zeroV;have hkt:gH U ((U'.setCell ⟨T,288,none⟩ v').setCells T (17+i*45) (mN fN zeroV)):=by
  obtain⟨d',vN,_⟩:=b1.eG;refine((ld U).step hF fun n c e _ hn he q=>?_).tabs vN (q1.2.trans q2.2);obtain⟨c',Wl⟩:=hk n q;rw[Wl]at hn;cases hn;exact he.2.1 rfl
 refine⟨b1,?_,q1.1.there ab,q1.2.trans q2.2,hkt⟩;have an1:Fr aW a U':=cN.step hF fun k hk e=>by have:=lY.block k e;omega
 obtain⟨c',Wl,_⟩:=b1.eG;obtain⟨c2,sW,_⟩:=q1.1.eG;have b2':=(b2.one kR Wl qX.1 qX.2 ag q1.2);have b3':=(b3.one Wl ag ag q1.2)
 exact kp (t:={t with fO:=t.fO++[⟨i,(t.tab i).op,r,(t.tab i).mM,t.steps⟩]}) (t':=mA t i r) q1.1 b2' b3' (fun n hn=>⟨fun vN=>(ho ((h4 n hn).1 vN)).one Wl ag q1.2,(h4 n hn).2⟩) kR (an1.step q1.2 fun k hk e=>by have e':k=T:=e;omega) q2 rfl (Ni (t:={t with fO:=t.fO++[⟨i,(t.tab i).op,r,(t.tab i).mM,t.steps⟩]}) (t':=mA t i r) rfl i (fun n hn=>ar hn) (by simp[mA,fN]) (by simp[mA,fN])) (fun j hj=>by
   by_cases ei:j=i
   ·subst ei;simp[mA,fN]
   ·simp only[mA,ar ei];exact⟨fun vN=>Or.inl ⟨trivial,trivial,trivial,vN⟩,(h4 j hj).2⟩)
theorem DT(h:di xw a U T t){i:Nat}(hi:i<6)(r:ky)(hd:(t.tab i).does≠0)(hl:t.fO.length<1000000) :
  aC 53 #[.pointer (some ⟨T,0,none⟩),.int .i64 i,.pointer (some ⟨T,17+i*45,none⟩),.agg #[.int .i64 r.what,.string r.head,.int .i64 r.cert]] U fun e w'=>e=.returned (.tuple #[.agg #[.int .i64 r.what,.string r.head,.int .i64 r.cert],.bool true,.nilIface])/\di xw a w' T (mA t i r)/\gH U w':=by
 obtain⟨x2,Oj⟩:∃x2,x2=(U.alloc (.cells #[.int .i64 r.what,.string r.head,.int .i64 r.cert] 46)).alloc (.cells #[.int .i64 0,.string ⟨#[]⟩,.int .i64 0] 46):=⟨_,rfl⟩;have dD:Fr aW U x2:=by rw[Oj];exact((ae aW U).alloc _).alloc _
 have k7:x2.heap[U.heap.size]?=some (.cells #[.int .i64 r.what,.string r.head,.int .i64 r.cert] 46 (0,0)):=by rw[Oj];exact((ae aW _).alloc _).keep (aB _ _) id
 have k8:x2.heap[U.heap.size+1]?=some (.cells #[.int .i64 0,.string ⟨#[]⟩,.int .i64 0] 46 (0,0)):=by
  rw[Oj];have:=aB (U.alloc (.cells #[.int .i64 r.what,.string r.head,.int .i64 r.cert] 46)) (.cells #[.int .i64 0,.string ⟨#[]⟩,.int .i64 0] 46);simpa using this
 have hU2:x2.heap.size=U.heap.size+2:=by rw[Oj];simp
 have fS:=O (dD.drew);obtain⟨R,hR⟩:∃R,R=U.heap.size:=⟨_,rfl⟩;have hxd:x2.drew.heap.size=R+2:=hU2.trans (by rw[hR]);have h':=h.dt (dD.drew);have k7':x2.drew.heap[R]?=some (.cells #[.int .i64 r.what,.string r.head,.int .i64 r.cert] 46 (0,0)):=by rw[hR];exact k7
 have k8':x2.drew.heap[R+1]?=some (.cells #[.int .i64 0,.string ⟨#[]⟩,.int .i64 0] 46 (0,0)):=by rw[hR];exact k8
 obtain⟨B,g,sv,sb,h1,h2,⟨es,Pm,lY,BJ⟩,h4⟩:=h'.ex;have ZZ:T<R:=by
  obtain⟨_,_,_,_,q1,_⟩:=h.ex;have:=q1.lt;omega
 have OV:=(h4 i hi).1 hd;obtain⟨ah,ch,hh⟩:=OV.own.form;rw[aj]at hh;have F1:=h1.Za hi hh k7';have aaP:=O (fun U' v' r hF cO=>fU.more (U':=U') (v':=v') h1 h2 Pm lY BJ h4 h'.low h'.fr hi hd r hF cO);have an3:es.length<1000000:=by rw[<-aj (f:=(·.1)),Pm];exact hl
 have il:a.heap.size<=R:=by have:=h.fr.size;omega
 obtain⟨x,hX⟩:∃x,x=R2 i (g i).o ah (g i).hs.length ch r (t.tab i).mM t.steps:=⟨_,rfl⟩;have YN:=O (Ho (n:=i) hh (t.tab i).op r (t.tab i).mM t.steps);have Wg:=O (show∀u∈x,u.oneCell'=true by rw[hX];exact Hp _ _ _ _ _ _ _ _);have HXL:=O (show x.length=28 by rw[hX];rfl);obtain⟨Zb,Zc,Vs⟩:=lY.form;rw[aj]at Vs
 have aaQ:=O (show x2.drew.ownsRow a.heap.size 88 28 (.slice Zb es.length Zc) es.length (es.map KA).flatten by
  have q:=lY.2
  rwa [aj,Vs]at q)
 have adI:=O (show∀n c e,x2.drew.heap[n]?=some (.cells c e (0,0))->e≠88->(Value.slice Zb es.length Zc).ownBlock≠some n from fun n c e hn he=>by rw[<-Vs];exact lY.not hn he);have HES:=O (show∀y∈es.map KA,y.length=28/\∀u∈y,u.oneCell'=true from lY.1);have HBT:=O (h1.eG);have d288:=h1.st;rw[Vs]at d288 aaP;have HR:=O hR;have HRU:=O (show U.heap.size<=R+1 from ab);have HX:=O Oj;have Ud:=O hX
 have HK7:=O k7';have HK8:=O k8';have HXD:=O hxd;obtain⟨i0,ri,oZ,kI,kS⟩:=info_parts Hq;generalize (g i).o=o at *
 generalize (g i).hs=hs at *
 generalize hnh:hs.length=nh at *
 generalize an5:(t.tab i).mM=mM at *
 generalize an6:t.steps=steps at *
 clear hnh h1 h2 Pm lY BJ h4 h' h hd OV hh Vs dD k7 k8 k7' k8' hX Oj hR hU2 an5 an6 hxd;go_enter func53,ntmps53;go_wp2_with fail
 rw[<-HX.o, <-HR.o];clear HX;unfold Go.Proofs.YtjndhcngnghpiaaGreatDoor.Za at F1
 refine wp_region_held_drew (S:=(fun V=>V.rangeAt T (17+i*45+1) [.int .i64 o.what,.int .i64 o.aI.part,.bool o.aI.cQ.aG,.string o.aI.cQ.host,.int .i64 o.aI.cQ.port,.bool o.aI.o.aG,.string o.aI.o.host,.int .i64 o.aI.o.port,.string o.aI.path,.string o.aI.query,.string o.aI.method,.slice ah nh ch,.bool o.aI.fF,.string o.aI.body,.bool o.proxy,.string o.text,.string o.user,.string o.pass,.string o.bI,.int .i64 o.cert,.bool o.all,.int .i64 o.n]/\V.rangeAt R 0 [.int .i64 r.what,.string r.head,.int .i64 r.cert]/\V.cell? ⟨T,17+i*45+24,none⟩=some (.int .i64 mM)/\V.cell? ⟨T,287,none⟩=some (.int .i64 steps))) af (by exact F1) ?_
 intro yl;refine aO 0 11 rfl ?_;refine aO 1 12 rfl ?_;refine aO 2 13 rfl ?_;refine aO 3 14 rfl ?_;refine aO 5 16 rfl ?_;refine aO 6 17 rfl ?_;refine aO 7 18 rfl ?_;refine aO 8 19 rfl ?_
 refine uz 9 20 rfl (fR bw 33 (.tmp 19) rfl T (17+i*45+1) rfl ([.int .i64 o.what,.int .i64 o.aI.part,.bool o.aI.cQ.aG,.string o.aI.cQ.host,.int .i64 o.aI.cQ.port,.bool o.aI.o.aG,.string o.aI.o.host,.int .i64 o.aI.o.port,.string o.aI.path,.string o.aI.query,.string o.aI.method,.slice ah nh ch,.bool o.aI.fF,.string o.aI.body,.bool o.proxy,.string o.text,.string o.user,.string o.pass,.string o.bI,.int .i64 o.cert,.bool o.all,.int .i64 o.n]) _ (fun w hw=>hw.1) underlying33 rfl af) ?_
 try simp only[Act.put,sA,sB,sC]
 refine uz 10 21 rfl (fR bw 46 (.tmp 7) rfl R 0 rfl ([.int .i64 r.what,.string r.head,.int .i64 r.cert]) _ (fun w hw=>hw.2.1) underlying46 rfl af) ?_
 try simp only[Act.put,sA,sB,sC]
 refine aO 11 22 rfl ?_;refine aO 12 23 rfl ?_;refine aO 13 24 rfl ?_;refine aO 14 25 rfl ?_;refine aO 15 26 rfl ?_;refine aO 16 27 rfl ?_;refine aO 17 28 rfl ?_;refine aO 18 29 rfl ?_
 have hbt:prog.built 88 [(0,.int .i64 i),(1,.agg #[.int .i64 o.what,.int .i64 o.aI.part,.bool o.aI.cQ.aG,.string o.aI.cQ.host,.int .i64 o.aI.cQ.port,.bool o.aI.o.aG,.string o.aI.o.host,.int .i64 o.aI.o.port,.string o.aI.path,.string o.aI.query,.string o.aI.method,.slice ah nh ch,.bool o.aI.fF,.string o.aI.body,.bool o.proxy,.string o.text,.string o.user,.string o.pass,.string o.bI,.int .i64 o.cert,.bool o.all,.int .i64 o.n]),(2,.agg #[.int .i64 r.what,.string r.head,.int .i64 r.cert]),(3,.int .i64 mM),(4,.int .i64 steps)]=some x.toArray:=by rw[Ud.o];exact Y' i o ah nh ch r mM steps
 refine uz 19 30 rfl (xr rfl 88 _ rfl x.toArray _ (by simp only[eA,cz,cY];rfl) hbt) ?_;clear hbt
 try simp only[Act.put,sA,sB,sC]
 have MZ:=O yl;have HD:=O d288;clear d288;refine wpAnyH_ready (rs:=[4,20]) af aQ ?_;refine AllReadyH.cons rfl (fun K hK=>?hA) (AllReadyH.cons rfl (fun K hK=>?hB) AllReadyH.nil)
 case' hA =>
  have d288:=HD.o;go_simp;refine hK.out _ _ MZ.o ?_;intro wU;clear hK K wU d288
  try simp only[Act.put,sA,sB,sC]
  refine eK 20 rfl fun K hK=>?_;have za:Instr.fill (fun i=>some (i*28,28)) ((Array.range (1*28)).map ((Value.agg DS).cells[· %(Value.agg DS).cells.size]!)) [(0,.agg x.toArray)]=some x.toArray:=by rw[Ud.o];exact NB i o ah nh ch r mM steps
  refine uM rfl 54 88 1 _ rfl x.toArray i0 (.agg DS) [(0,.agg x.toArray)] (by simp only[eA,cz,cY];rfl) underlying54 ri oZ (by rw[kI];decide) (by rw[kI];decide) (by rw[kI];exact za) ?_;clear za;obtain⟨x3,xf⟩:∃x3,x3=x2.drew.alloc (.cells x.toArray 88):=⟨_,rfl⟩;have Ec:Fr aW x2.drew x3:=by rw[xf];exact(ae aW _).alloc _
  have adJ:x3.heap.size=R+3:=by rw[xf];simp[HXD.o]
  have hN3:∀j u,x[j]?=some u->x3.cell? ((⟨R+2,0,none⟩:Addr).add j)=some u:=by
   rw[xf, <-HXD.o];exact kB _ x _
  have HO3:x3.ownsRow a.heap.size 88 28 (.slice Zb es.length Zc) es.length (es.map KA).flatten:=by rw[xf];exact World.ownsRow.alloc aaQ.o _
  have EA:(x3).rangeAt T (17+i*45+1) [.int .i64 o.what,.int .i64 o.aI.part,.bool o.aI.cQ.aG,.string o.aI.cQ.host,.int .i64 o.aI.cQ.port,.bool o.aI.o.aG,.string o.aI.o.host,.int .i64 o.aI.o.port,.string o.aI.path,.string o.aI.query,.string o.aI.method,.slice ah nh ch,.bool o.aI.fF,.string o.aI.body,.bool o.proxy,.string o.text,.string o.user,.string o.pass,.string o.bI,.int .i64 o.cert,.bool o.all,.int .i64 o.n]/\(x3).rangeAt R 0 [.int .i64 r.what,.string r.head,.int .i64 r.cert]/\(x3).cell? ⟨T,17+i*45+24,none⟩=some (.int .i64 mM)/\(x3).cell? ⟨T,287,none⟩=some (.int .i64 steps):=(⟨pH MZ.o.1 Ec id,pH MZ.o.2.1 Ec id,lO MZ.o.2.2.1 Ec id,lO MZ.o.2.2.2 Ec id⟩)
  have d288:=lO HD.o Ec id;rw[<-xf,HXD.o];refine hK.out _ _ EA ?_;clear hK K xf;intro Bj
 case' hB =>
  have za:Instr.fill (fun i=>some (i*28,28)) ((Array.range (1*28)).map ((Value.agg DS).cells[· %(Value.agg DS).cells.size]!)) [(0,.agg x.toArray)]=some x.toArray:=by rw[Ud.o];exact NB i o ah nh ch r mM steps
  refine uM rfl 54 88 1 _ rfl x.toArray i0 (.agg DS) [(0,.agg x.toArray)] (by simp only[eA,cz,cY];rfl) underlying54 ri oZ (by rw[kI];decide) (by rw[kI];decide) (by rw[kI];exact za) ?_;clear za;obtain⟨x3,xf⟩:∃x3,x3=x2.drew.alloc (.cells x.toArray 88):=⟨_,rfl⟩;have Ec:Fr aW x2.drew x3:=by rw[xf];exact(ae aW _).alloc _
  have adJ:x3.heap.size=R+3:=by rw[xf];simp[HXD.o]
  have hN3:∀j u,x[j]?=some u->x3.cell? ((⟨R+2,0,none⟩:Addr).add j)=some u:=by
   rw[xf, <-HXD.o];exact kB _ x _
  have HO3:x3.ownsRow a.heap.size 88 28 (.slice Zb es.length Zc) es.length (es.map KA).flatten:=by rw[xf];exact World.ownsRow.alloc aaQ.o _
  have EA:(x3).rangeAt T (17+i*45+1) [.int .i64 o.what,.int .i64 o.aI.part,.bool o.aI.cQ.aG,.string o.aI.cQ.host,.int .i64 o.aI.cQ.port,.bool o.aI.o.aG,.string o.aI.o.host,.int .i64 o.aI.o.port,.string o.aI.path,.string o.aI.query,.string o.aI.method,.slice ah nh ch,.bool o.aI.fF,.string o.aI.body,.bool o.proxy,.string o.text,.string o.user,.string o.pass,.string o.bI,.int .i64 o.cert,.bool o.all,.int .i64 o.n]/\(x3).rangeAt R 0 [.int .i64 r.what,.string r.head,.int .i64 r.cert]/\(x3).cell? ⟨T,17+i*45+24,none⟩=some (.int .i64 mM)/\(x3).cell? ⟨T,287,none⟩=some (.int .i64 steps):=(⟨pH MZ.o.1 Ec id,pH MZ.o.2.1 Ec id,lO MZ.o.2.2.1 Ec id,lO MZ.o.2.2.2 Ec id⟩)
  have d288:=lO HD.o Ec id;rw[<-xf,HXD.o];refine hK.out _ _ EA ?_;clear hK K xf;intro Bj
  try simp only[Act.put,sA,sB,sC]
  refine eK 4 rfl fun K hK=>?_;go_simp;refine hK.out _ _ EA ?_;intro Aw;clear hK K Aw
 all_goals
  try simp only[Act.put,sA,sB,sC]
  clear yl;refine eK 21 rfl fun K hK=>?_;refine step_append_lies (w:=x3) rfl (.tmp 15) (.tmp 31) 54 rfl a.heap.size 88 i0 _ 28 328 underlying54 ri oZ kI kS rfl ab (.slice Zb es.length Zc) es.length _ rfl HO3 ⟨R+2,0,none⟩ 1 1 x rfl (by rw[HXL.o]) hN3 Wg.o ab fl ab ab (R+3) adJ ?_;intro gg cap w4 eU jk dL JY
  have jH:Fr (own (.slice Zb es.length Zc)) x2.drew w4:=fg (Ec.mono (fun _ _ h=>absurd h id)) jk (fun _ hk _=>hk);have hm:=aaP.o w4 (.slice (some ⟨gg,0,none⟩) (es.length+1) cap) r jH (by
   refine⟨fun y hy=>?_,?_⟩
   ·rcases bP.1 hy with hy|hy
    ·exact HES.o y hy
    ·rcases cV.1 hy with rfl
     rw[YN.o, <-Ud.o];exact⟨HXL.o,Wg.o⟩
   ·rw[YN.o, <-Ud.o,aM,aj,ec];simpa using eU)
  obtain⟨m1,m2,m3,m4,m5⟩:=hm;have HM5:=O ((eE fS.o).trans m5);have Z0:=O m2;have RH:=O m3;have HM4:=O m4;have nR:=adI.o R _ _ HK7.o ag;have nT:(Value.slice Zb es.length Zc).ownBlock≠some T:=by
   obtain⟨bt,hbt,_⟩:=HBT.o;exact adI.o T _ _ hbt ag
  have n7:=jH.keep HK7.o nR;have n8:=jH.keep HK8.o (adI.o _ _ _ HK8.o ag);have an8:=m1.st;have f288:=m1.free 288
  have Aw:(w4).rangeAt T (17+i*45+1) [.int .i64 o.what,.int .i64 o.aI.part,.bool o.aI.cQ.aG,.string o.aI.cQ.host,.int .i64 o.aI.cQ.port,.bool o.aI.o.aG,.string o.aI.o.host,.int .i64 o.aI.o.port,.string o.aI.path,.string o.aI.query,.string o.aI.method,.slice ah nh ch,.bool o.aI.fF,.string o.aI.body,.bool o.proxy,.string o.text,.string o.user,.string o.pass,.string o.bI,.int .i64 o.cert,.bool o.all,.int .i64 o.n]/\(w4).rangeAt R 0 [.int .i64 r.what,.string r.head,.int .i64 r.cert]/\(w4).cell? ⟨T,17+i*45+24,none⟩=some (.int .i64 mM)/\(w4).cell? ⟨T,287,none⟩=some (.int .i64 steps):=(⟨pH MZ.o.1 jH nT,pH MZ.o.2.1 jH nR,lO MZ.o.2.2.1 jH nT,lO MZ.o.2.2.2 jH nT⟩)
  have X1:=O m1;refine hK.out _ _ Aw ?_;intro hS5;clear hK K m1 m2 m3 m4 m5 eU jk dL JY HO3 hN3 EA d288
  try simp only[Act.put,sA,sB,sC]
  refine aO 22 33 rfl ?_;refine aO 23 34 rfl ?_;refine eK 24 rfl fun K hK=>?_;go_simp;have hFT:Fr (one T) w4 (w4.setCell ⟨T,288,none⟩ (.slice (some ⟨gg,0,none⟩) (es.length+1) cap)):=(ae (one T) _).setCell (p:=⟨T,288,none⟩) (fun _=>rfl) _;have hRT:R≠T:=ab
  have hS6:(w4.setCell ⟨T,288,none⟩ (.slice (some ⟨gg,0,none⟩) (es.length+1) cap)).rangeAt T (17+i*45+1) [.int .i64 o.what,.int .i64 o.aI.part,.bool o.aI.cQ.aG,.string o.aI.cQ.host,.int .i64 o.aI.cQ.port,.bool o.aI.o.aG,.string o.aI.o.host,.int .i64 o.aI.o.port,.string o.aI.path,.string o.aI.query,.string o.aI.method,.slice ah nh ch,.bool o.aI.fF,.string o.aI.body,.bool o.proxy,.string o.text,.string o.user,.string o.pass,.string o.bI,.int .i64 o.cert,.bool o.all,.int .i64 o.n]/\(w4.setCell ⟨T,288,none⟩ (.slice (some ⟨gg,0,none⟩) (es.length+1) cap)).rangeAt R 0 [.int .i64 r.what,.string r.head,.int .i64 r.cert]/\(w4.setCell ⟨T,288,none⟩ (.slice (some ⟨gg,0,none⟩) (es.length+1) cap)).cell? ⟨T,17+i*45+24,none⟩=some (.int .i64 mM)/\(w4.setCell ⟨T,288,none⟩ (.slice (some ⟨gg,0,none⟩) (es.length+1) cap)).cell? ⟨T,287,none⟩=some (.int .i64 steps):=(⟨yg Aw.1 bF,pH Aw.2.1 hFT (fun e=>hRT e),eQ (vs:=[_]) Aw.2.2.1 (Or.inl ab),eQ (vs:=[_]) Aw.2.2.2 (Or.inl ab)⟩)
  refine hK.out _ _ hS6 ?_;intro hS7;clear hK K hS7 hS5;refine wpAnyH_done af ?_ _;have p7:=hFT.keep n7 (fun e=>hRT e);have p8:=hFT.keep n8 (fun e=>by have e':R+1=T:=e;omega);have HP7:=O (((HM4.o).keep n7 (fun e=>hRT e)));have HP8:=O (((HM4.o).keep n8 (fun e=>by have e':R+1=T:=e;omega)));clear Aw hS6 n7 n8 an8 f288 jH Ec adJ
  generalize w4.setCell ⟨T,288,none⟩ (.slice (some ⟨gg,0,none⟩) (es.length+1) cap)=W5 at *
  go_wp2_with (first|((with_reducible refine cP 75 ?_);refine hZ rfl 75 _ _ rfl T (17+i*45) (mN fN zeroV).toArray rfl rfl RH.o rfl (zz _ _ rfl rfl) ?_)|((with_reducible refine dv 38 ?_);refine aJ rfl 46 (.tmp 7) rfl R rfl _ #[.int .i64 r.what,.string r.head,.int .i64 r.cert] (0,0) _ HP7.o underlying46 rfl (bd _ rfl) ?_)|((with_reducible refine cP 46 ?_);refine aF rfl 46 (.tmp 8) (.tmp 38) rfl (R+1) #[.int .i64 r.what,.string r.head,.int .i64 r.cert] rfl rfl _ bQ HP8.o (bd _ rfl) rfl bX ?_)|fail)
  refine aR (jd bw _ _ (R+1) 46 #[.int .i64 r.what,.string r.head,.int .i64 r.cert] (0,0) _ rfl (aY _ (R+1) _ _ _ _ HP8.o) underlying46 rfl (bd _ rfl)) rfl ?_;exact⟨rfl,di.far Z0.o ((ae (one (R+1)) _).setRow (fun _=>rfl) _) (fun n hn=>by have e':n=R+1:=hn;omega) (fun n hn=>by cases(show n=R+1 from hn);exact⟨_,_,HP8.o,Hm⟩),HM5.o.new ((ae (one (R+1)) _).setRow (fun _=>rfl) _) HRU.o⟩
end
