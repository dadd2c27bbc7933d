/- Lemmas for the law's walk. -/
import Derived.Test.YtnckmcnffadjoaaGreatDoorPk33
set_option maxRecDepth 100000
set_option maxHeartbeats 16000000
set_option linter.unusedSimpArgs false
namespace Go.Proofs.YtnckmcnffadjoaaGreatDoor
open Go.Proofs.Tryz
open Go.RowKit
variable {W a w:World} {i B T:Nat} {p q q' r:List Value} {g:Nat->rp} {sv v:Value} {sb:Nat->Nat} {k:Int} {t:fD} {o:jG} {hs:List gZ}
section
variable {xw : Option (Nat × dx)} {a U U' : World} {T : Nat} {t : fD}
def sj(xw:Option (Nat×dx))(a U:World)(T:Nat)(r:fD×(kx×Bool×Nat))(e:Ending)(w':World):Prop :=
 e=.returned (.tuple #[.agg #[.int .i64 r.2.1.what,.string r.2.1.head,.int .i64 r.2.1.cert],.bool r.2.2.1,CD r.2.2.2])/\cW xw a w' T r.1/\gR U w'
theorem step_end{R:Nat}{t':fD}{r:kx×Bool×Nat}{e:Ending}(h:cW xw a W T t')(hk:gR U W)(hR:U.heap.size<=R)(ha:a.heap.size<=R)(hr:W.heap[R]?=some (.cells bR 30 (0,0)))(cs:Array Value)(he:e=.returned (.tuple #[.agg #[.int .i64 r.1.what,.string r.1.head,.int .i64 r.1.cert],.bool r.2.1,CD r.2.2])):sj xw a U T (t',r) e (W.setRow R cs) :=
 ⟨he,h.far ((ae (one R) _).setRow (fun _=>rfl) _) (fun n hn=>by have e':n=R:=hn;omega) (fun n hn=>by cases(show n=R from hn);exact⟨_,_,hr,Jp⟩),hk.new ((ae (one R) _).setRow (fun _=>rfl) _) hR⟩
def abg(a:World)(x:dx)(op:iz):Prop:=∀(V:World) (B:Nat) (pv:Nat->cU) (o:jG) (hs:List gZ),o.dS hs=op->cz a.heap.size V B pv x->Fr aR a V->gH V o hs ->
 Calls prog 14 #[.pointer (some ⟨B,0,none⟩),.agg o.cells.toArray] V fun e w'=>e=.returned (.agg #[.int .i64 (iC x op).2.what,.string (iC x op).2.head,.int .i64 (iC x op).2.cert])/\dk a.heap.size V B pv (iC x op).1 w'
theorem cW.tick(h:cW xw a U T t)(k:Int):cW xw a (U.setCell ⟨T,287,none⟩ (.int .i64 k)) T {t with steps:=k}/\Fr (one T) U (U.setCell ⟨T,287,none⟩ (.int .i64 k)):=by
 obtain⟨B,g,sv,sb,h1,h2,h3,h4⟩:=h.ex;have q:=h1.EJ k;exact⟨kH (t':={t with steps:=k}) h1 h2 h3 h4 h.low h.fr q rfl (fun _ _ hp=>hp) (fun j hj=>⟨fun hd=>Or.inl ⟨rfl,rfl,rfl,hd⟩,(h4 j hj).2⟩),q.2⟩
theorem cW.cells(h:cW xw a U T t)(hi:i<6):U.cell? ⟨T,17+i*45,none⟩=some (.int .i64 (t.tab i).does)/\U.cell? ⟨T,287,none⟩=some (.int .i64 t.steps)/\(∀k,U.frozen? ⟨T,k,none⟩=false)/\U.rangeAt T 1 (lj t.num)/\(∀o n,o+n<=289->U.there T o n):=by
 obtain⟨B,g,sv,sb,h1,h2,h3,h4⟩:=h.ex;exact⟨h1.tab i hi 0 _ rfl,h1.steps,fun k=>h1.free k,h1.num,fun o n hn=>h1.there hn⟩
theorem Jv{b o:Nat}(h:U.rangeAt b o (p++(q++r)))(hl:q'.length=q.length)(ht:U.there b (o+p.length) q'.length):(U.setCells b (o+p.length) q').rangeAt b o (p++(q'++r)):=fun j v hj=>by
 by_cases h1:j<p.length
 ·rw[List.getElem?_append_left h1]at hj;rw[World.cell?_setCells_out b q' _ U ⟨b,o+j,none⟩ (fun _ _=>Or.inl (show o+j<o+p.length from ab))];exact h j v (by rw[List.getElem?_append_left h1];exact hj)
 ·by_cases h2:j<p.length+q'.length
  ·rw[List.getElem?_append_right ab,List.getElem?_append_left ab]at hj;have:=World.rangeAt_setCells_same U b (o+p.length) q' ht (j-p.length) v hj
   rwa [show o+p.length+(j-p.length)=o+j from ab]at this
  ·rw[List.getElem?_append_right ab,List.getElem?_append_right ab]at hj;rw[World.cell?_setCells_out b q' _ U ⟨b,o+j,none⟩ (fun _ _=>Or.inr (show o+p.length+q'.length<=o+j from ab))];exact h j v (by rw[List.getElem?_append_right ab,List.getElem?_append_right ab, <-hl];exact hj)
theorem gu.Xx(h:gu U T B g sv t){n:Nat}(hn:n<6){x:vd}{w:rp}(hx:mX (t.tab n) (g n)=p++(q++r))(hl:q'.length=q.length)(Ur:mX x w=p++(q'++r)) :
  gu (U.setCells T (17+n*45+p.length) q') T B (fun i=>if i=n then w else g i) sv (t.put n x)/\Fr (one T) U (U.setCells T (17+n*45+p.length) q'):=by
 have hlen:p.length+q'.length<=45:=by
  have:=qx x w;rw[Ur]at this;simp at this;omega
 refine⟨⟨lR T _ _ q' _ _ h.eI,eT h.main (Or.inl ab),bX h.num T _ q' (Or.inr (Or.inl (by rw[nE];omega))),fun m hm=>?_,eT h.steps (Or.inr ab),eT h.st (Or.inr ab)⟩,mJ T q' _ _ (ae _ _)⟩;by_cases e:m=n
 ·subst e;show World.rangeAt _ T (17+m*45) (mX (if m=m then x else t.tab m) (if m=m then w else g m));rw[az rfl,az rfl,Ur];have:=h.tab m hm;rw[hx]at this;exact Jv this hl (h.there ab)
 ·show World.rangeAt _ T (17+m*45) (mX (if m=n then x else t.tab m) (if m=n then w else g m));rw[aq e,aq e];exact bX (h.tab m hm) T _ q' (by
   right;rw[qx];rcases eM m n with q|q
   ·left;omega
   ·right;omega)
theorem EW{P:Program}{ops:Array Oper}{a:Act}{w:World}{K:Act->World->Prop}{Q:Exit->Act->World->Prop}{E:Prop}{op:Oper}(zd:op.guard=none)(ty:TypeId)(x y:Operand)(ho:op.op=.store ty x y)
  (b o:Nat)(v:Value)(hx:a.eval x=.pointer (some ⟨b,o,none⟩))(hy:a.eval y=v)(hv:v.cells= #[v])
  (ht:w.there b o 1)(hi:(P.info? ty).map (·.size)=some 1)(h1:v.oneCell'=true)
  (h:K (a.put op.dst undef) (w.setCell ⟨b,o,none⟩ v)):if Region.wanted op (yielded ops a.tmps)=true then Oper.wp P op a w K Q else E:=by
 have hw:Region.wanted op (yielded ops a.tmps)=true:=by simp[Region.wanted,zd]
 rw[az hw];have hr:(storeVar ty ⟨b,o,none⟩ v).run P w=.ok () (w.setCells b o [v]):=by
  have e:storeVar ty ⟨b,o,none⟩ v=storeVar ty ⟨b,o,none⟩ (.agg #[v]):=by
   unfold storeVar;rw[hv];rfl
  rw[e];exact run_storeVar_mid w b o ty #[v] ht hi (by simp[h1])
 unfold Oper.wp execOp;simp only[ho,hx,hy,Instr.storeAt,Instr.sureAddr,Sem.run_bind,Sem.run_pure,Result.andThen_ok,hr];exact h
theorem Xy(r:kx):(o_ r).toArray.all (·.oneCell')=true :=
 bW (by
  intro u hu;unfold o_ at hu;simp only[bB,cq,dU]at hu;rcases hu with rfl|rfl|rfl<;>rfl)
theorem Xz(f:Nat->Nat->Int):(lj f).toArray.all (·.oneCell')=true :=
 bW (by
  intro u hu;unfold lj at hu;simp only[bB,cq,dU]at hu;rcases hu with rfl|rfl|rfl|rfl|rfl|rfl|rfl|rfl|rfl|rfl|rfl|rfl|rfl|rfl|rfl|rfl<;>rfl)
theorem cW.asm{c:Array Value}(hb:gu W T B g sv t)(hw:xL a.heap.size U (oD xw B sb t))(he:ot a.heap.size U sv t.cX)(ho:∀n,n<6->(t.tab n).does≠0->jS a.heap.size U ((g n).o,(g n).hs) (t.tab n).op)(hp:∀n,n<6->(t.tab n).does=2\/(t.tab n).does=3->(g n).sp=.pointer (some ⟨sb n,0,none⟩))(hc:U.heap[T]?=some (.cells c 75 (0,0)))(hF:Fr (one T) U W)(lp:a.heap.size<=T)(cK:Fr aR a U):cW xw a W T t :=
 ⟨⟨B,g,sv,sb,hb,hw.one lp hc rD.1 rD.2 ag hF,he.one hc ag ag hF,fun n hn=>⟨fun hd=>(ho n hn hd).one hc ag hF,hp n hn⟩⟩,lp,cK.step hF fun k hk e=>by
  have:k=T:=e;omega⟩
theorem Tf{B C:Nat}{g:Nat->rp}{sv:Value}{sb:Nat->Nat}{i:Nat}{qv:Nat->cU}(hi:i<6)(h1:gu U T B g sv t)(h2:xL a.heap.size U (oD xw B sb t))(h3:ot a.heap.size U sv t.cX)
  (h4:∀n,n<6->((t.tab n).does≠0->jS a.heap.size U ((g n).o,(g n).hs) (t.tab n).op)/\((t.tab n).does=2\/(t.tab n).does=3->(g n).sp=.pointer (some ⟨sb n,0,none⟩)))(hd:(t.tab i).does≠0)(lp:a.heap.size<=T)(cK:Fr aR a U)
  (hF:Fr aR U U')(hc:cz a.heap.size U' C qv t.w)(hn:∀j,lz C qv j->U.heap.size<=j) :
  cW xw a (((U'.setCell ⟨T,17+i*45+25,none⟩ (.pointer (some ⟨C,0,none⟩))).setCells T (17+i*45+26) (lj t.num)).setCell ⟨T,17+i*45,none⟩ (.int .i64 2)) T (t.put i {t.tab i with seen:=t.w,num:=t.num,does:=2})/\Fr (one T) U' (((U'.setCell ⟨T,17+i*45+25,none⟩ (.pointer (some ⟨C,0,none⟩))).setCells T (17+i*45+26) (lj t.num)).setCell ⟨T,17+i*45,none⟩ (.int .i64 2))/\((U'.setCell ⟨T,17+i*45+25,none⟩ (.pointer (some ⟨C,0,none⟩))).setCells T (17+i*45+26) (lj t.num)).cell? ⟨T,17+i*45,none⟩=some (.int .i64 (t.tab i).does)/\(∀k,((U'.setCell ⟨T,17+i*45+25,none⟩ (.pointer (some ⟨C,0,none⟩))).setCells T (17+i*45+26) (lj t.num)).frozen? ⟨T,k,none⟩=false)/\(U'.setCell ⟨T,17+i*45+25,none⟩ (.pointer (some ⟨C,0,none⟩))).there T (17+i*45+26) 16:=by
 have b1:=h1.fr hF id;have w1:xL a.heap.size U' (oD xw B (fun j=>if j=i then C else sb j) (t.put i {t.tab i with seen:=t.w,num:=t.num,does:=2})):=by
  refine(h2.add hF (i:=i) hc hn).sub fun j p hp=>?_;by_cases e:j=i
  ·subst e;rw[az rfl];unfold oD at hp;rw[aq ab,aq ab]at hp;simpa[fD.put,hi]using hp
  ·rw[aq e];unfold oD at hp ⊢;by_cases e6:j=6
   ·rw[az e6]at hp ⊢;exact hp
   ·rw[aq e6]at hp ⊢;simpa[fD.put,e]using hp
 have q1:=b1.C6 hi (j:=25) ag (.pointer (some ⟨C,0,none⟩)) (x:=t.tab i) (w:={g i with sp:=.pointer (some ⟨C,0,none⟩)}) rfl;have q2:=q1.1.Xx (n:=i) hi (x:={t.tab i with num:=t.num}) (w:={g i with sp:=.pointer (some ⟨C,0,none⟩)})
  (p:=.int .i64 (t.tab i).does :: ((g i).o.cells++[.int .i64 (t.tab i).fails,.int .i64 (t.tab i).gG,.pointer (some ⟨C,0,none⟩)])) (q:=lj (t.tab i).num) (q':=lj t.num) (r:=o_ (t.tab i).dI)
  (by simp only[gi,eb];rfl) rfl rfl
 have q3:=q2.1.C6 hi (j:=0) ag (.int .i64 2) (x:={t.tab i with num:=t.num,does:=2}) (w:={g i with sp:=.pointer (some ⟨C,0,none⟩)}) (by simp only[gi,eb];rfl);have Fm:=(q1.2.trans q2.2).trans q3.2;obtain⟨c,Ju,_⟩:=b1.eI;refine⟨?_,Fm,?_,q2.1.free,q1.1.there ab⟩
 ·refine cW.asm (q3.1.same (t':=t.put i {t.tab i with seen:=t.w,num:=t.num,does:=2}) rfl (fun n hn=>?_) rfl) w1 (h3.kept (fW hF)) (fun n hn tV=>?_) (fun n hn tV=>?_) Ju Fm lp (cK.trans hF)
  ·by_cases e:n=i
   ·subst e;simp only[gi,eb];rfl
   ·simp[fD.put,e]
  ·by_cases e:n=i
   ·subst e;simp only[gi,eb];exact((h4 n hn).1 hd).kept (fW hF)
   ·simp only[fD.put,aq e]at tV ⊢;exact((h4 n hn).1 tV).kept (fW hF)
  ·by_cases e:n=i
   ·subst e;simp
   ·simp only[fD.put,aq e]at tV ⊢;exact(h4 n hn).2 tV
 ·exact q2.1.tab i hi 0 (.int .i64 (t.tab i).does) (by simp only[gi,eb];rfl)
theorem Tg{x':dx}(r:kx)(hi:i<6)(h1:gu U T B g sv t)(h2:xL a.heap.size U (oD xw B sb (t.put i {t.tab i with seen:=x'})))(h3:ot a.heap.size U sv t.cX)(h4:∀n,n<6->(t.tab n).does≠0->jS a.heap.size U ((g n).o,(g n).hs) (t.tab n).op)(h5:∀n,n<6->(t.tab n).does=2\/(t.tab n).does=3->(g n).sp=.pointer (some ⟨sb n,0,none⟩))(hd:(t.tab i).does=2)(lp:a.heap.size<=T)(cK:Fr aR a U) :
  cW xw a ((U.setCells T (17+i*45+42) (o_ r)).setCell ⟨T,17+i*45,none⟩ (.int .i64 3)) T (t.put i {t.tab i with dI:=r,seen:=x',does:=3})/\Fr (one T) U ((U.setCells T (17+i*45+42) (o_ r)).setCell ⟨T,17+i*45,none⟩ (.int .i64 3))/\(U.setCells T (17+i*45+42) (o_ r)).cell? ⟨T,17+i*45,none⟩=some (.int .i64 (t.tab i).does)/\(∀k,(U.setCells T (17+i*45+42) (o_ r)).frozen? ⟨T,k,none⟩=false)/\U.there T (17+i*45+42) 3:=by
 have q2:=h1.Xx (n:=i) hi (x:={t.tab i with dI:=r}) (w:=g i)
  (p:=.int .i64 (t.tab i).does :: ((g i).o.cells++(.int .i64 (t.tab i).fails :: .int .i64 (t.tab i).gG :: (g i).sp :: lj (t.tab i).num))) (q:=o_ (t.tab i).dI) (q':=o_ r) (r:=[])
  rfl rfl rfl
 have q3:=q2.1.C6 hi (j:=0) ag (.int .i64 3) (x:={t.tab i with dI:=r,does:=3}) (w:=g i) (by simp only[gi,eb];rfl);have Fm:=q2.2.trans q3.2;obtain⟨c,Ju,_⟩:=h1.eI;refine⟨?_,Fm,?_,q2.1.free,h1.there ab⟩
 ·refine cW.asm (q3.1.same (t':=t.put i {t.tab i with dI:=r,seen:=x',does:=3}) rfl (fun n hn=>?_) rfl) (h2.sub (OM rfl fun n hn tV=>?_)) h3 (fun n hn tV=>?_) (fun n hn tV=>?_) Ju Fm lp cK
  ·by_cases e:n=i
   ·subst e;simp only[gi,eb];rfl
   ·simp[fD.put,e]
  ·by_cases e:n=i
   ·subst e;simp[fD.put,hd]
   ·simp only[fD.put,aq e]at tV ⊢;exact⟨tV,trivial⟩
  ·by_cases e:n=i
   ·subst e;simp only[gi,eb];exact h4 n hn ab
   ·simp only[fD.put,aq e]at tV ⊢;exact h4 n hn tV
  ·by_cases e:n=i
   ·subst e;simp only[eb];exact h5 n hn (Or.inl hd)
   ·simp only[fD.put,aq e]at tV ⊢;exact h5 n hn tV
 ·exact q2.1.tab i hi 0 (.int .i64 (t.tab i).does) (by simp only[gi,eb];rfl)
end
section
variable {xw : Option (Nat × dx)} {a U U' : World} {T : Nat} {t : fD}
theorem ME(h:cW xw a U T t)(n:Int)(hk:k+2<=1000000)(hf:gy k t)(hl:t.cX.length<1000000)(Th:∀i,i<6->(t.tab i).does=2->abg a (t.tab i).seen (t.tab i).op) :
  Calls prog 21 #[.pointer (some ⟨T,0,none⟩),.int .i64 n] U (sj xw a U T (lC t n)):=by
 obtain⟨x1,mO⟩:∃x1,x1=U.alloc (.cells #[.int .i64 0,.string ⟨#[]⟩,.int .i64 0] 30):=⟨_,rfl⟩;have df:Fr aR U x1:=by rw[mO];exact(ae aR U).alloc _
 have kR0:x1.heap[U.heap.size]?=some (.cells bR 30 (0,0)):=by rw[mO];exact aB _ _
 obtain⟨R,hR⟩:∃R,R=U.heap.size:=⟨_,rfl⟩;rw[<-hR]at kR0;have KR:=O kR0;have HR:=O hR;have HX:=O mO;have YA:=O (eG df);have YD:=O (show U.heap.size<=R from ab);have YE:=O (show a.heap.size<=R by have:=h.fr.size;omega);have h1:=h.dh df;have H1:=O h1;have HF:=O hf;have HK:=O hk;clear mO kR0 hR;cases hn:FU n
 ·as_aux_lemma =>
   have HE:=O (show lC t n=(t,rep 0,false,2)by unfold lC;rw[hn];rfl);have HC:=O (Jj x1 T hn);clear hn h h1 hf hk hl Th df;go_enter func21,ntmps21;go_wp2_with fail
   rw[<-HX.o, <-HR.o];refine HC.o.mono ?_;rintro e u⟨rfl,rfl⟩;unfold CD;go_wp2_with (first|((with_reducible refine cV 30 ?_);refine aE rfl 30 (.tmp 4) (.tmp 17) rfl R #[.int .i64 0,.string ⟨#[]⟩,.int .i64 0] rfl rfl _ bR KR.o (bd _ rfl) rfl ct ?_)|fail)
   refine aS (ju bC _ _ R 30 #[.int .i64 0,.string ⟨#[]⟩,.int .i64 0] (0,0) _ rfl (aX _ R _ _ _ _ KR.o) underlying30 rfl (bd _ rfl)) rfl ?_;rw[HE.o];exact step_end H1.o YA.o YD.o YE.o KR.o _ rfl
 ·obtain⟨i,rfl,hi⟩:=Ji hn;have e1:((i:Int)).toNat=i:=rfl;have HC:=O (OL x1 T hi);have HI:=O hi;obtain⟨cd,Jw,XB, -, -⟩:=h1.cells hi;have hdo:=hf.does i;by_cases hd:(t.tab i).does=0
  ·as_aux_lemma =>
    have HE:=O (show lC t (i:Int)=(t,rep 0,false,8)by unfold lC;rw[hn,az rfl,e1,az hd]);rw[hd]at cd;clear hn h h1 hf hk hl Th df hd hdo hi Jw XB;go_enter func21,ntmps21;go_wp2_with fail
    rw[<-HX.o, <-HR.o];refine HC.o.mono ?_;rintro e u⟨rfl,rfl⟩;go_wp2_with (first|((with_reducible refine cV 30 ?_);refine aE rfl 30 (.tmp 4) (.tmp 39) rfl R #[.int .i64 0,.string ⟨#[]⟩,.int .i64 0] rfl rfl _ bR KR.o (bd _ rfl) rfl ct ?_)|fail)
    refine aS (ju bC _ _ R 30 #[.int .i64 0,.string ⟨#[]⟩,.int .i64 0] (0,0) _ rfl (aX _ R _ _ _ _ KR.o) underlying30 rfl (bd _ rfl)) rfl ?_;rw[HE.o];exact step_end H1.o YA.o YD.o YE.o KR.o _ rfl
  ·rcases(show(t.tab i).does=1\/(t.tab i).does=2\/(t.tab i).does=3 from ab)with zj|sV|hd3
   ·skip
    have HE:=O (show lC t (i:Int)=({(t.put i {t.tab i with seen:=t.w,num:=t.num,does:=2})with steps:=t.steps+1},rep 0,false,0)by unfold lC;rw[hn,az rfl,e1,aq hd,step1 zj]);rw[zj]at cd;have hkr:x1.drew.heap[R]?=some (.cells bR 30 (0,0)):=KR.o;have h2:=h1.dh (aA (ae aR x1));obtain⟨B,g,sv,sb,p1,p2,p3,p4⟩:=h2.ex;obtain⟨pv,hw⟩:=p2.at (i:=6) (B:=B) (x:=t.w) rfl;have TW:=O (BA _ _ _ _ _ hw hf.inv.tG)
    have VZ:=O (fun U' C qv hF hc hn=>Tf (U':=U') (C:=C) (qv:=qv) hi p1 p2 p3 p4 ab h2.low h2.fr hF hc hn);have Qn:=O p1;have m0:=p1.main;have mn:=p1.num;clear hn h h1 hf hk hl Th df hd hdo hi Jw XB hw p1 p2 p3 p4 h2 hkr;go_enter func21,ntmps21;go_wp2_with fail
    rw[<-HX.o, <-HR.o];refine HC.o.mono ?_;rintro e u⟨rfl,rfl⟩;go_wp2_with fail
    refine wp_region_held_drew (S:=(fun V=>V.cell? ⟨T,0,none⟩=some (.pointer (some ⟨B,0,none⟩))/\V.rangeAt T 1 (lj t.num))) af (by exact⟨m0,mn⟩) ?_;intro zc;refine tkN 0 43 rfl ?_
    refine tkN 1 44 rfl ?_
    refine tkN 2 45 rfl ?_
    refine tkN 3 46 rfl ?_
    refine tkN 4 47 rfl ?_
    refine tkN 5 48 rfl ?_
    refine tkN 6 49 rfl ?_
    refine tkN 8 51 rfl ?_
    refine tkN 9 52 rfl ?_
    refine tkN 10 53 rfl ?_
    refine tT 11 54 rfl (fB bC 70 (.tmp 53) rfl T 1 rfl (lj t.num) _ (fun w hw=>hw.2) underlying70 rfl af) ?_
    try simp only[Act.put,sA,sB,sC]
    refine eL 7 rfl fun K hK=>?_;go_simp;refine TW.o.mono ?_;rintro e u2⟨C,qv,rfl,hc,yC,DB⟩;have q:=VZ.o u2 C qv yC hc DB;obtain⟨q1,q2,q3,q4,q5⟩:=q;have JW:=O q1;have Yt:=O q2;have HTH:=O q5;have b2:=Qn.o.fr yC id;have d25:u2.cell? ⟨T,17+i*45+25,none⟩=some (g i).sp:=b2.tab i HI.o 25 _ rfl;have f25:=b2.free (17+i*45+25);have pZ:=O b2;have V3:=O yC;rw[zj]at q3
    have HS:=O (show u2.cell? ⟨T,0,none⟩=some (.pointer (some ⟨B,0,none⟩))/\u2.rangeAt T 1 (lj t.num)from⟨b2.main,b2.num⟩);refine hK.out _ _ HS.o ?_;intro xz;clear hK K q1 q2 q5 hc yC DB b2
    try simp only[Act.put,sA,sB,sC]
    refine tkN 12 55 rfl ?_
    refine tkN 13 56 rfl ?_
    clear zc xz;refine eL 14 rfl fun K hK=>?_;go_simp;have Am:(u2.setCell ⟨T,17+i*45+25,none⟩ (.pointer (some ⟨C,0,none⟩))).cell? ⟨T,0,none⟩=some (.pointer (some ⟨B,0,none⟩))/\(u2.setCell ⟨T,17+i*45+25,none⟩ (.pointer (some ⟨C,0,none⟩))).rangeAt T 1 (lj t.num):=⟨eT (vs:=[_]) HS.o.1 (Or.inl ab),yV HS.o.2 (by rw[nE];omega)⟩;refine hK.out _ _ Am ?_;intro FP;clear hK K d25 f25 FP
    generalize u2.setCell ⟨T,17+i*45+25,none⟩ (.pointer (some ⟨C,0,none⟩))=u3 at *
    try simp only[Act.put,sA,sB,sC]
    refine tkN 15 57 rfl ?_
    refine tkN 16 58 rfl ?_
    refine wpAnyH_ready (rs:=[17]) af aQ ?_;refine AllReadyH.cons (o:=⟨none,_,_,_,_,_⟩) rfl (fun K hK=>?_) AllReadyH.nil;refine si rfl 70 (.tmp 58) (.tmp 54) rfl T (17+i*45+26) (lj t.num).toArray rfl rfl HTH.o af (Xz t.num) ?_
    have Bv:(u3.setCells T (17+i*45+26) (lj t.num)).cell? ⟨T,0,none⟩=some (.pointer (some ⟨B,0,none⟩))/\(u3.setCells T (17+i*45+26) (lj t.num)).rangeAt T 1 (lj t.num):=⟨eT Am.1 (Or.inl ab),bX Am.2 T _ _ (Or.inr (Or.inl (by rw[nE];omega)))⟩;refine hK.out _ _ Bv ?_;intro hS5;clear hK K hS5 Am;rw[show(lj t.num).toArray.toList=lj t.num from rfl];generalize u3.setCells T (17+i*45+26) (lj t.num)=u4 at *
    try simp only[Act.put,sA,sB,sC]
    refine tkN 18 59 rfl ?_
    refine tkN 19 60 rfl ?_
    refine wpAnyH_ready (rs:=[20]) af aQ ?_;have q4':=q4 (17+i*45);have HS4:=O Bv;clear q4;have Yg:u4.there T (17+i*45) 1:=fun j hj=>by
     have e:j=0:=ab;subst e;exact⟨by rw[Nat.add_zero,q3];rfl,q4'⟩
    refine AllReadyH.cons (o:=⟨none,_,_,_,_,_⟩) rfl (fun K hK=>?_) AllReadyH.nil;refine EW rfl 3 (.tmp 60) _ rfl T (17+i*45) (.int .i64 2) rfl rfl rfl Yg af rfl ?_;have Bv:=HS4.o
    have hS6:(u4.setCell ⟨T,17+i*45,none⟩ (.int .i64 2)).cell? ⟨T,0,none⟩=some (.pointer (some ⟨B,0,none⟩))/\(u4.setCell ⟨T,17+i*45,none⟩ (.int .i64 2)).rangeAt T 1 (lj t.num):=⟨eT (vs:=[_]) Bv.1 (Or.inl ab),yV Bv.2 (by rw[nE];omega)⟩;refine hK.out _ _ hS6 ?_;intro hS7;clear hK K hS7 hS6 Bv HS4 q3 q4' Yg;generalize u4.setCell ⟨T,17+i*45,none⟩ (.int .i64 2)=u5 at *
    try simp only[Act.put,sA,sB,sC]
    refine wpAnyH_done af ?_ _;generalize (lj t.num).toArray=nn;have US:gR U u5:=by
     obtain⟨c,hc,_⟩:=pZ.o.eI;exact(YA.o.trans (eG ((aA (ae aR u)).trans V3.o))).tabs hc Yt.o
    have BZ:u5.heap[R]?=some (.cells bR 30 (0,0)):=by
     obtain⟨c,hc,_⟩:=pZ.o.eI;refine(((lD u).trans (eG ((aA (ae aR u)).trans V3.o))).tabs hc Yt.o).block KR.o sg
    obtain⟨-, Jw,XB, -, -⟩:=JW.o.cells HI.o;have cf:=XB 287;have s1:=HF.o.steps.1;have s2:=HF.o.steps.2;have hkk:=HK.o;have akQ:u5.cell? ⟨T,287,none⟩=some (.int .i64 t.steps):=Jw;obtain⟨tk1,XC⟩:=JW.o.tick (t.steps+1);have HT1:=O tk1;obtain⟨cT,Ju⟩:=JW.o.kind;have HK6:=O (US.tabs Ju XC);have JT:=O (XC.keep BZ (fun e=>by cases(show R=T from e);rw[Ju]at BZ;cases BZ));clear tk1 XC US BZ Ju Jw XB
    go_wp2_with (first|((with_reducible refine cV 30 ?_);refine aE rfl 30 (.tmp 4) (.tmp 85) rfl R #[.int .i64 0,.string ⟨#[]⟩,.int .i64 0] rfl rfl _ bR JT.o (bd _ rfl) rfl ct ?_)|fail)
    refine aS (ju bC _ _ R 30 #[.int .i64 0,.string ⟨#[]⟩,.int .i64 0] (0,0) _ rfl (aX _ R _ _ _ _ JT.o) underlying30 rfl (bd _ rfl)) rfl ?_;rw[HE.o];exact step_end HT1.o HK6.o YD.o YE.o JT.o _ rfl
   ·as_aux_lemma =>
     have HE:=O (show lC t (i:Int)=({(t.put i {t.tab i with dI:=(iC (t.tab i).seen (t.tab i).op).2,seen:=(iC (t.tab i).seen (t.tab i).op).1,does:=3})with steps:=t.steps+1},rep 0,false,0)by unfold lC;rw[hn,az rfl,e1,aq hd,step2 sV]);rw[sV]at cd;have h2:=h1.dh (aA (ae aR x1));obtain⟨B,g,sv,sb,p1,p2,p3,p4⟩:=h2.ex;obtain⟨go1,go2⟩:=((p4 i hi).1 ab).fits;have qz:=(p4 i hi).2 (Or.inl sV)
     have HDO:=O (cW.seen hi (Or.inl sV) p1 p2 p3 p4 h2.low h2.fr (x':=(iC (t.tab i).seen (t.tab i).op).1) (fun pv hw=>by
      exact Th i hi sV _ _ pv _ _ go2 hw h2.fr go1))
     have HWK:=O (fun U' q1 q2 q3 q4 q5=>Tg (U:=U') (B:=B) (xw:=xw) (a:=a) (g:=g) (sv:=sv) (sb:=sb) (x':=(iC (t.tab i).seen (t.tab i).op).1) (iC (t.tab i).seen (t.tab i).op).2 hi q1 q2 q3 q4 (fun n hn=>(p4 n hn).2) sV h2.low q5);have m25:x1.drew.cell? ⟨T,17+i*45+25,none⟩=some (.pointer (some ⟨sb i,0,none⟩)):=by rw[<-qz];exact p1.tab i hi 25 _ rfl
     have mop:x1.drew.rangeAt T (17+i*45+1) (g i).o.cells:=jT (p:=[.int .i64 (t.tab i).does]) (q:=(g i).o.cells) (p1.tab i hi);have xi:=O qz;have HOC:=O (show(g i).o.cells.length=22 from rfl);have Qn:=O p1;obtain⟨r,hr⟩:∃r,r=(iC (t.tab i).seen (t.tab i).op).2:=⟨_,rfl⟩;rw[<-hr]at HDO HWK HE;obtain⟨oc,CU⟩:∃oc,oc=(g i).o.cells:=⟨_,rfl⟩;have HOV:=O CU;rw[<-CU]at HDO mop HOC
     clear hn h h1 hf hk hl Th df hd hdo hi Jw XB p1 p2 p3 p4 h2 qz go1 go2 hr CU;go_enter func21,ntmps21;go_wp2_with fail
     rw[<-HX.o, <-HR.o];refine HC.o.mono ?_;rintro e u⟨rfl,rfl⟩;go_wp2_with fail
     refine wp_region_held_drew (S:=(fun V=>V.cell? ⟨T,17+i*45+25,none⟩=some (.pointer (some ⟨sb i,0,none⟩))/\V.rangeAt T (17+i*45+1) oc)) af (by exact⟨m25,mop⟩) ?_;intro zc;refine tkN 0 63 rfl ?_
     refine tkN 1 64 rfl ?_
     refine tkN 2 65 rfl ?_
     refine tkN 3 66 rfl ?_
     refine tkN 4 67 rfl ?_
     refine tkN 5 68 rfl ?_
     refine tkN 6 69 rfl ?_
     refine tkN 7 70 rfl ?_
     refine tkN 8 71 rfl ?_
     refine tT 9 72 rfl (fB bC 41 (.tmp 71) rfl T (17+i*45+1) rfl oc _ (fun w hw=>hw.2) underlying41 rfl (by rw[HOC.o];kernel_rfl)) ?_
     try simp only[Act.put,sA,sB,sC]
     refine eL 10 rfl fun K hK=>?_;go_simp;refine HDO.o.mono ?_;rintro e u2⟨rfl,⟨y1,y2,y3,y4,y5⟩,y6⟩;obtain⟨q1,q2,q3,q4,q5⟩:=HWK.o u2 y1 y2 y3 y4 y5;have JW:=O q1;have Yt:=O q2;have HTH:=O q5;have pZ:=O y1;have HY6:=O (gR.OP y6);rw[sV]at q3
     have HS:=O (show u2.cell? ⟨T,17+i*45+25,none⟩=some (.pointer (some ⟨sb i,0,none⟩))/\u2.rangeAt T (17+i*45+1) oc from⟨by rw[<-xi.o];exact y1.tab i HI.o 25 _ rfl,by rw[HOV.o];exact jT (p:=[.int .i64 (t.tab i).does]) (q:=(g i).o.cells) (y1.tab i HI.o)⟩);refine hK.out _ _ HS.o ?_;intro xz;clear hK K q1 q2 q5 y1 y2 y3 y4 y5 y6 zc xz
     try simp only[Act.put,sA,sB,sC]
     refine tkN 11 74 rfl ?_
     refine tkN 12 75 rfl ?_
     refine wpAnyH_ready (rs:=[13]) af aQ ?_;refine AllReadyH.cons (o:=⟨none,_,_,_,_,_⟩) rfl (fun K hK=>?_) AllReadyH.nil;refine si rfl 30 (.tmp 75) (.tmp 73) rfl T (17+i*45+42) (o_ r).toArray rfl rfl HTH.o af (Xy r) ?_
     have Bv:(u2.setCells T (17+i*45+42) (o_ r)).cell? ⟨T,17+i*45+25,none⟩=some (.pointer (some ⟨sb i,0,none⟩))/\(u2.setCells T (17+i*45+42) (o_ r)).rangeAt T (17+i*45+1) oc:=⟨eT HS.o.1 (Or.inl ab),bX HS.o.2 T _ _ (Or.inr (Or.inl (by rw[HOC.o];omega)))⟩;refine hK.out _ _ Bv ?_;intro hS5;clear hK K hS5;rw[show(o_ r).toArray.toList=o_ r from rfl];generalize u2.setCells T (17+i*45+42) (o_ r)=u4 at *
     try simp only[Act.put,sA,sB,sC]
     refine tkN 14 76 rfl ?_
     refine tkN 15 77 rfl ?_
     refine wpAnyH_ready (rs:=[16]) af aQ ?_;have q4':=q4 (17+i*45);have HS4:=O Bv;clear q4 Bv;refine AllReadyH.cons rfl (fun K hK=>?_) AllReadyH.nil;go_simp;have Bv:=HS4.o
     have hS6:(u4.setCell ⟨T,17+i*45,none⟩ (.int .i64 3)).cell? ⟨T,17+i*45+25,none⟩=some (.pointer (some ⟨sb i,0,none⟩))/\(u4.setCell ⟨T,17+i*45,none⟩ (.int .i64 3)).rangeAt T (17+i*45+1) oc:=⟨eT (vs:=[_]) Bv.1 (Or.inr (by show 17+i*45+1<=_;omega)),bX Bv.2 T (17+i*45) [_] (Or.inr (Or.inr (by show 17+i*45+1<=_;omega)))⟩;refine hK.out _ _ hS6 ?_;intro hS7;clear hK K hS7 hS6 Bv HS4 q3 q4'
     generalize u4.setCell ⟨T,17+i*45,none⟩ (.int .i64 3)=u5 at *
     refine wpAnyH_done af ?_ _;have US:gR U u5:=by
      obtain⟨c,hc,_⟩:=pZ.o.eI;exact(YA.o.trans ((eG (aA (ae aR u))).trans HY6.o)).tabs hc Yt.o
     have BZ:u5.heap[R]?=some (.cells bR 30 (0,0)):=by
      obtain⟨c,hc,_⟩:=pZ.o.eI;refine(((lD u).trans ((eG (aA (ae aR u))).trans HY6.o)).tabs hc Yt.o).block KR.o sg
     obtain⟨-, Jw,XB, -, -⟩:=JW.o.cells HI.o;have cf:=XB 287;have s1:=HF.o.steps.1;have s2:=HF.o.steps.2;have hkk:=HK.o;have akQ:u5.cell? ⟨T,287,none⟩=some (.int .i64 t.steps):=Jw;obtain⟨tk1,XC⟩:=JW.o.tick (t.steps+1);have HT1:=O tk1;obtain⟨cT,Ju⟩:=JW.o.kind;have HK6:=O (US.tabs Ju XC);have JT:=O (XC.keep BZ (fun e=>by cases(show R=T from e);rw[Ju]at BZ;cases BZ));clear tk1 XC US BZ Ju Jw XB
     go_wp2_with (first|((with_reducible refine cV 30 ?_);refine aE rfl 30 (.tmp 4) (.tmp 85) rfl R #[.int .i64 0,.string ⟨#[]⟩,.int .i64 0] rfl rfl _ bR JT.o (bd _ rfl) rfl ct ?_)|fail)
     refine aS (ju bC _ _ R 30 #[.int .i64 0,.string ⟨#[]⟩,.int .i64 0] (0,0) _ rfl (aX _ R _ _ _ _ JT.o) underlying30 rfl (bd _ rfl)) rfl ?_;rw[HE.o];exact step_end HT1.o HK6.o YD.o YE.o JT.o _ rfl
   ·as_aux_lemma =>
     have HE:=O (show lC t (i:Int)=((iT {t with steps:=t.steps+1} i).1,(iT {t with steps:=t.steps+1} i).2.1,(iT {t with steps:=t.steps+1} i).2.2,0)by unfold lC;rw[hn,az rfl,e1,aq hd,akO hd3]);rw[hd3]at cd;have cf:=XB 287;have s1:=hf.steps.1;have s2:=hf.steps.2;obtain⟨tk1,XC⟩:=h1.tick (t.steps+1);obtain⟨cT,Ju⟩:=h1.kind;have HCM:=O (Pk tk1 hi hd3 (show k+1<1000000 from ab) hf.tick hl)
     have HK5:=O ((eG df).tabs Ju XC);have M7:=O (XC.keep KR.o (fun e=>by
      cases(show R=T from e);have:=KR.o;rw[Ju]at this;cases this))
     clear hn h h1 hf hl Th df hd hdo hi XB tk1 XC Ju;go_enter func21,ntmps21;go_wp2_with fail
     rw[<-HX.o, <-HR.o];refine HC.o.mono ?_;rintro e u⟨rfl,rfl⟩;go_wp2_with fail
     refine HCM.o.mono ?_;rintro e w6⟨rfl,z1,z2⟩;have QM:=O z1;have HZ2:=O z2;have HZR:=O (z2.block M7.o sg);clear z1 z2;generalize iT {t with steps:=t.steps+1} i=cr at *
     go_wp2_with (first|((with_reducible refine cV 30 ?_);refine aE rfl 30 (.tmp 4) (.tmp 34) rfl R #[.int .i64 cr.2.1.what,.string cr.2.1.head,.int .i64 cr.2.1.cert] rfl rfl _ bR HZR.o (bd _ rfl) rfl ct ?_)|fail)
     refine aS (ju bC _ _ R 30 #[.int .i64 cr.2.1.what,.string cr.2.1.head,.int .i64 cr.2.1.cert] (0,0) _ rfl (aX _ R _ _ _ _ HZR.o) underlying30 rfl (bd _ rfl)) rfl ?_;rw[HE.o];exact step_end QM.o (HK5.o.trans HZ2.o) YD.o YE.o HZR.o _ rfl
end
theorem abg.any{x:dx}{op:iz}(hi:lh x)(ht:kG a):abg a x op:=fun V B pv o hs ho hw hf qB=>by
 have:=QG hw hf hi ht qB;rw[ho]at this;exact this
theorem XD{xw:Option (Nat×dx)}{U:World}(h:cW xw a U T t)(n:Int)(hk:k+2<=1000000)(hf:gy k t)(hl:t.cX.length<1000000)(ht:kG a) :
  Calls prog 21 #[.pointer (some ⟨T,0,none⟩),.int .i64 n] U (sj xw a U T (lC t n)) :=
 ME h n hk hf hl (fun i _ hd=>abg.any (hf.seen i (Or.inl hd)) ht)
section
variable {xw : Option (Nat × dx)} {a U U' : World} {T : Nat} {t : fD}
def XJ(U:World)(es:List (xK×(jG×List gZ)))(l i:Value)(wr:World):Prop :=
 ∃k:Nat,k<=es.length/\i=.int .i64 k/\Fr aR U wr/\∃fs:List (xK×(jG×List gZ)),fs.map (·.1)=(es.take k).map (·.1)/\OwnRows U.heap.size 43 28 wr l (fs.map Fo)/\∀x∈fs,jS U.heap.size wr x.2 x.1.op
theorem E_:(prog.info? 43).map (·.zero)=some (some (.agg xb)):=af
theorem vo:(prog.info? 43).map (·.size)=some 28:=af
theorem JC{l:List Value}(h:∀u∈l,u.oneCell'=true):l.toArray.all (·.oneCell')=true:=bW h
theorem abk{w9:World}{N:Nat}{ev:xK}{nh:Nat}{ah:Option Addr}{ch:Nat}(a9:Option Addr)(c9:Nat){y:List Value}{i0:TypeInfo}(kZ:i0.size=28)(hy:y=SZ ev.tab o ah nh ch ev.dI ev.gG ev.fin)(k9:w9.heap[N]?=some (.cells y.toArray 43 (0,0))){base:Nat}{wr:World}{xs:List (List Value)}(hF:Fr aR wr w9)(hN:N=wr.heap.size)(ho:OwnRows base 43 28 wr v xs) :
  ∃(y2:List Value) (W3:World),y2=SZ ev.tab o a9 nh c9 ev.dI ev.gG ev.fin/\W3=w9.setCell ⟨N,12,none⟩ (.slice a9 nh c9)/\W3.heap[N]?=some (.cells y2.toArray 43 (0,0))/\Fr (one N) w9 W3/\y2.length=28/\(∀u∈y2,u.oneCell'=true)/\Instr.fill (fun i=>some (i*i0.size,i0.size)) ((Array.range (1*i0.size)).map ((Value.agg xb).cells[· %(Value.agg xb).cells.size]!)) [(0,.agg y2.toArray)]=some y2.toArray/\OwnRows base 43 28 W3 v xs:=by
 have T5:Fr (one N) w9 (w9.setCell ⟨N,12,none⟩ (.slice a9 nh c9)):=(ae (one N) _).setCell (p:=⟨N,12,none⟩) (fun _=>rfl) _;refine⟨_,_,rfl,rfl,?_,T5,rfl,C7 _ _ _ _ _ _ _ _,by rw[kZ];exact Pc _ _ _ _ _ _ _ _,(ho.fr hF (fun _ _ h=>h)).fr T5 (fun b hb e=>?_)⟩
 ·rw[b_ k9,hy];rfl
 ·have:=ho.lt b hb;have e':b=N:=e;omega
theorem BI(h:cW xw a U T t)(hl:t.cX.length<1000000) :
  Calls prog 10 #[.pointer (some ⟨T,0,none⟩)] U fun e w'=>∃sv,e=.returned sv/\ot U.heap.size w' sv t.cX/\Fr aR U w':=by
 obtain⟨B,g,sv,sb,h1,h2,⟨es,F7,mq,CE⟩,h4⟩:=h.ex;obtain⟨asv,csv,Xh⟩:=mq.form;rw[ai]at Xh;subst Xh;have afF:es.length<1000000:=by rw[<-ai (f:=(·.1)),F7];exact hl
 have HRW:=O (fun V (hV:Fr aR U V)=>bg mq.at hV);have HOP:=O (fun V (hV:Fr aR U V) x (hx:x∈es)=>(CE x hx).kept (fW hV));have akW:=h1.st;obtain⟨i0,qD,pq,kZ,lq⟩:=info_parts Jr;have HES:=O F7;clear h h1 h2 h4 F7 mq CE;go_enter func10,ntmps10
 go_wp2_with (at_make
              refine wpList_make_own _ rfl _ _ 25 rfl U.heap.size 43 i0 (.agg xb) 28 underlying25 qD pq kZ .i64 .i64 _ es.length rfl rfl rfl (by rw[lq];omega) fq (ay _) ?_
              intro w1 rE akX
              have RM:Fr aR U w1:=fk (ae _ _) akX (fun k hk=>by cases hk)
              have akY:=nZ akW RM id)
 go_loopw[3,17] (XJ U es) (fun _ i _=>es.length-(intOf i).toNat)
 case atStart=>exact⟨0,aI _,rfl,RM,[],rfl,⟨aQ,rE⟩,aQ⟩
 case round =>
  obtain⟨k,hk,rfl,hF,fs,kJ,cP,CE⟩:=hrel;obtain⟨al,cl,Tx⟩:=cP.form;rw[ai]at Tx;subst Tx;clear akY RM rE akX akW;by_cases eX:k<es.length
  ·have dN:=HRW.o wr hF;rcases dN.2 with ⟨_,_,_,e,_⟩|⟨bk,o0,c,hf,g1,g2,g3,g4⟩
   ·have:es=[]:=by simpa using e
    subst this;exact absurd eX (bS _)
   ·rw[ai]at hf;cases hf;have hx:=List.getElem?_eq_getElem eX;generalize es[k]=x at hx;have g_:x∈es:=bT hx;have hr:wr.rangeAt bk (o0+k*28) (Fo x):=fun j v hj=>g4 k (Fo x) (by rw[List.getElem?_map,hx];rfl) j v hj;have HOX:=O (fun V (hV:Fr aR U V)=>HOP.o V hV x g_);obtain⟨ev,o,hs⟩:=x;have DA:=HOX.o wr hF;obtain⟨ah,ch,hh⟩:=DA.own.form;rw[ai]at hh;have rW:hs.length<100000:=DA.fit.aL.2.1
    have Cx:=O (show(es.take (k+1)).map (·.1)=(es.take k).map (·.1)++[ev]by rw[bZ,hx];simp);obtain⟨y,hy⟩:∃y,y=Fo (ev,(o,hs)):=⟨_,rfl⟩;rw[<-hy]at hr;have hy':y=SZ ev.tab o ah hs.length ch ev.dI ev.gG ev.fin:=hy.trans (ER hh ev.op ev.dI ev.gG ev.fin);have HY:=O hy';have E7:=O (show y.length=28 by rw[hy];rfl)
    have Sy:=O (show∀u∈y,u.oneCell'=true by rw[hy,show Fo (ev,(o,hs))=SZ ev.tab o ah hs.length ch ev.dI ev.gG ev.fin from ER hh ev.op ev.dI ev.gG ev.fin];exact C7 _ _ _ _ _ _ _ _);have HR:=O hr;have HHH:=O hh;have Eb:=O cP;have aqG:=O CE;have HF:=O hF;have Vp:=O kJ;obtain⟨N,hN⟩:∃N,N=wr.heap.size:=⟨_,rfl⟩;have hUN:U.heap.size<=N:=by have:=hF.size;omega
    have Er:=O (show(wr.alloc (.cells xb 43)).heap[N]?=some (.cells xb 43 (0,0))from by rw[hN];exact aB _ _);have HN:=O hN;have hke:k<es.length:=eX;clear dN hr hx hy hy' hh DA cP CE hF kJ hN g4;go_wp2_with (first
     |((with_reducible refine kt ⟨some 20,_,_,_,_,_⟩ ?_)
       refine aU rfl 43 (.tmp 19) rfl bk (o0+k*28) rfl y _ HR.o underlying43 rfl (by rw[E7.o];exact vo) ?_
       refine jb rfl 43 rfl (some 5) rfl xb E_ N HN.o.symm ?_
       refine aE rfl 43 (.tmp 5) (.tmp 20) rfl N y.toArray rfl rfl 43 xb Er.o (by rw[aW,E7.o];exact vo) (by have e:y.toArray.size=y.length:=rfl;rw[e,E7.o];rfl) (JC Sy.o) ?_
       have hFW:Fr aR U ((wr.alloc (.cells xb 43)).setRow N y.toArray):=iY (HF.o.alloc _) hUN _
       have JB:Fr aR wr ((wr.alloc (.cells xb 43)).setRow N y.toArray):=iY ((ae aR wr).alloc _) (by rw[HN.o];exact ay _) _
       have kW:((wr.alloc (.cells xb 43)).setRow N y.toArray).heap[N]?=some (.cells y.toArray 43 (0,0)):=kS Er.o
       generalize (wr.alloc (.cells xb 43)).setRow N y.toArray=W1 at *
       have z12:W1.cell? ⟨N,12,none⟩=some (.slice ah hs.length ch):=by
         simp only[World.cell?,kW,HY.o]
         rfl
       have JP:=O (show oO W1 (.slice ah hs.length ch) hs from by
         have q:=(HOX.o W1 hFW).fit.eo
         rw[HHH.o]at q
         exact q)
       have hlw:U.heap.size<=W1.heap.size:=hFW.size)
     |(at_builtin
       refine Ax rfl _ _ rfl U.heap.size _ [] rfl (dv _ _ _ _) _ (hs.map gZ.cells) rfl JP.o bG hlw ?_
       intro v9 w9 vy aa0
       rw[List.nil_append]at vy
       obtain⟨a9,c9,hv9⟩:=vy.form
       rw[ai]at hv9
       subst hv9
       have T4:Fr aR W1 w9:=fk (ae _ _) aa0 (fun k hk=>by cases hk)
       have k9:=T4.keep kW id
       have z9:w9.cell? ⟨N,12,none⟩=some (.slice ah hs.length ch):=nZ z12 T4 id
       have z9f:w9.frozen? ⟨N,12,none⟩=false:=by simp[World.frozen?,k9])
     |((with_reducible refine kt ⟨some 30,_,_,_,_,_⟩ ?_)
       obtain⟨y2,W3,hy2,hW3,kW2,T5,afU,acY,MM,fo⟩:=abk a9 c9 kZ HY.o k9 (JB.trans T4) HN.o Eb.o
       have HY2:=O hy2
       have k9':=k9
       clear hy2 z12 z9 z9f k9
       rw[<-hW3]
       refine aH rfl 43 (.tmp 5) rfl N rfl _ y2.toArray (0,0) _ kW2 underlying43 rfl (by rw[aW,afU];exact vo) ?_
       refine yf rfl 25 43 1 _ rfl (some 31) rfl y2.toArray i0 (.agg xb) [(0,.agg y2.toArray)] (by simp only[eC,cA,dn];rfl) underlying25 qD pq (by rw[kZ];decide) (by rw[kZ];decide) MM W3.heap.size rfl ?_
       have hUW:U.heap.size<=W3.heap.size:=aD hlw (aD T4.size T5.size)
       clear MM)
     |(at_builtin
       refine nQ rfl _ _ 25 43 rfl 28 328 (.agg xb) underlying25 Jr rfl ag ag U.heap.size (.slice al fs.length cl) (fs.map Fo) rfl (fo.alloc _) W3.heap.size 1 y2 rfl afU acY (fun i u hi=>by rw[World.cell?_alloc_mark];simpa using hi) (by rw[ai];have q:=ar List.length Vp.o;rw[ai,ai,aJ]at q;omega) bG ?_
       intro v' w4 eY Ct)
     |fail)
    have TL:Fr (own (.slice al fs.length cl)) W3 w4:=fk ((ae (own (.slice al fs.length cl)) W3).alloc _) Ct (fun k hk _=>hk);have Zi:jS U.heap.size w9 ({o with aL:={o.aL with eo:=.slice a9 hs.length c9}},hs) ev.op:=by
     have q:=HOX.o w9 (hFW.trans T4);exact⟨{q.fit with eo:=vy.at},q.is,vy⟩
    have key:∀ {x:jG×List gZ} {p:iz},jS U.heap.size w9 x p->jS U.heap.size w4 x p:=fun q=>by
     have q3:=q.one (k9') ag T5;exact q3.rows (q3.own.fr TL fun b hb SH=>by
      obtain⟨c',Yl⟩:=fo.BX SH;exact q3.own.not Yl ag hb)
    have acZ:XJ U es v' (.int .i64 ((k+1:Nat):Int)) w4:=by
     refine⟨k+1,ab,rfl,?_,fs++[(ev,({o with aL:={o.aL with eo:=.slice a9 hs.length c9}},hs))],?_,?_,fun x hx=>?_⟩
     ·refine((hFW.trans T4).step T5 (fun k hk e=>?_)).step TL (fun k hk e=>?_)
      ·have e':k=N:=e;omega
      ·have:=fo.block k e;omega
     ·rw[bH,Vp.o,Cx.o];rfl
     ·rw[bH,cA,dn,show Fo (ev,({o with aL:={o.aL with eo:=.slice a9 hs.length c9}},hs))=SZ ev.tab o a9 hs.length c9 ev.dI ev.gG ev.fin from ER (o:={o with aL:={o.aL with eo:=.slice a9 hs.length c9}}) rfl ev.op ev.dI ev.gG ev.fin, <-HY2.o];exact eY
     ·rcases bK.1 hx with hx|hx
      ·exact key ((aqG.o x hx).kept (fW (JB.trans T4)))
      ·rcases cE.1 hx with rfl
       exact key Zi
    have aqI:=O acZ;clear acZ key Zi TL eY Ct fo T5 kW2 acY afU hW3;go_wp2;go_roundw
    case rel =>
     obtain⟨k',r1,r2,r3⟩:=aqI.o;exact⟨k',r1,r2.trans bC,r3⟩
    case measure=>simp[intOf];omega
  ·have HE:=O (show fs.map (·.1)=t.cX by rw[kJ,aC ab,HES.o]);have HO:=O cP;have HP:=O CE;have NB:=O hF;clear cP CE kJ hF;go_wp2;go_ret;exact⟨_,rfl,⟨fs,HE.o,HO.o,HP.o⟩,NB.o⟩
end
def tA.dS(m:tA):Sz:=⟨m.kind,m.tab,m.o.dS m.hs⟩
def sk:Array Value:= #[.int .i64 0,.int .i64 0,.int .i64 0,.int .i64 0,.bool false,.string ⟨#[]⟩,.int .i64 0,.bool false,.string ⟨#[]⟩,.int .i64 0,.string ⟨#[]⟩,.string ⟨#[]⟩,.string ⟨#[]⟩,.slice none 0 0,.bool false,.string ⟨#[]⟩,.bool false,.string ⟨#[]⟩,.string ⟨#[]⟩,.string ⟨#[]⟩,.string ⟨#[]⟩,.int .i64 0,.bool false,.int .i64 0]
theorem AJ:(prog.info? 66).map (·.zero)=some (some (.agg sk)):=af
theorem tB:(prog.info? 66).map (·.size)=some 24:=af
theorem Po(t:fD)(m:Sz):(qT t m).cX.length<=t.cX.length+1:=by
 unfold qT;split
 ·rw[Hw];omega
 ·split
  ·rw[Ti];omega
  ·split
   ·exact EY _ _
   ·omega
theorem gy.move(h:gy k t)(m:Sz)(ho:m.op.user.size<=5000/\m.op.pass.size<=5000/\m.op.path.size<=5000):gy (k+2) (qT t m):=by
 unfold qT;split
 ·exact(h.gG m.tab m.op ho).mono ab
 ·split
  ·exact(h.cancel m.tab).mono ab
  ·split
   ·exact h.step m.tab
   ·exact h.mono ab
theorem ML(l:List Sz)(m:Sz):wY (l++[m])=qT (wY l) m:=by unfold wY;simp
theorem QN(l:List Sz)(ho:∀m∈l,m.op.user.size<=5000/\m.op.pass.size<=5000/\m.op.path.size<=5000):gy (2*l.length) (wY l)/\(wY l).cX.length<=l.length:=by
 have key:∀k,k<=l.length->gy (2*(k:Int)) (wY (l.take k))/\(wY (l.take k)).cX.length<=k:=by
  intro k
  induction k with
  |zero=>exact fun _=>⟨gy.new,ay _⟩
  |succ k ih =>
   intro hk;obtain⟨i1,i2⟩:=ih ab;have hx:=List.getElem?_eq_getElem (show k<l.length from ab);rw[bZ,hx,Option.toList_some,ML];refine⟨?_,?_⟩
   ·have:=i1.move (l[k]) (ho _ (bL _));rw[show(2*((k+1:Nat):Int))=2*(k:Int)+2 from ab];exact this
   ·have:=Po (wY (l.take k)) l[k];omega
 have:=key l.length (ay _);rw[List.take_length]at this;exact this
theorem E5(h:gH w o hs):(o.dS hs).user.size<=5000/\(o.dS hs).pass.size<=5000/\(o.dS hs).path.size<=5000:=⟨h.user,h.pass,by have:=h.path;show o.aL.path.size<=5000;omega⟩
theorem Tj(h:gH w o hs)(hT:w.heap.size<=T):hs≠ []->∀b,o.aL.eo.ownBlock=some b->b≠T:=by
 intro hne b hb;rcases h.eo.2 with ⟨_,_,_,e,_⟩|⟨bk,o',c,e,_,_,hl,_⟩
 ·exact absurd (by simpa using e) hne
 ·rw[e]at hb;have hb':some bk=some b:=hb;cases hb';omega
section
variable {xw : Option (Nat × dx)} {a U U' : World} {T : Nat} {t : fD}
def afQ(a:World)(T:Nat)(ms:List tA)(i:Value)(wr:World):Prop:=∃k:Nat,k<=ms.length/\i=.int .i64 k/\cW none a wr T (wY ((ms.take k).map tA.dS))
theorem QO(hf:Fr aR a U){ms:List tA}(hm:vn a v ms)(hl:ms.length<1000)(ht:kG a) :
  Calls prog 9 #[v] U fun e w'=>∃T,e=.returned (.pointer (some ⟨T,0,none⟩))/\cW none a w' T (wY (ms.map tA.dS)):=by
 obtain⟨av,cv,hv⟩:=hm.rows.form;rw[ai]at hv;subst hv;have HM:=O hm;have CH:=O (fun k (hk:k<=ms.length)=>QN ((ms.take k).map tA.dS) (fun m Cr=>by
  obtain⟨x,hx,rfl⟩:=bV.1 Cr;exact E5 (hm.fit x (dX hx))))
 have HN:=O (MB hf);clear hm hf;go_enter func9,ntmps9;go_wp2_with fail
 refine HN.o.mono ?_;rintro e u⟨T,rfl,h0, -⟩;clear HN;go_wp2;go_loopw[9] (afQ a T ms) (fun i _=>ms.length-(intOf i).toNat)
 case atStart=>exact⟨0,aI _,rfl,h0⟩
 case round =>
  obtain⟨k,hk,rfl,hT⟩:=hrel;clear h0;by_cases eX:k<ms.length
  ·have dN:=(HM.o.dh hT.fr).rows;rcases dN.2 with ⟨_,_,_,e,_⟩|⟨bk,o0,c,hf,g1,g2,g3,g4⟩
   ·have:ms=[]:=by simpa using e
    subst this;exact absurd eX (bS _)
   ·rw[ai]at hf;cases hf;have hx:=List.getElem?_eq_getElem eX;generalize ms[k]=x at hx;have g_:x∈ms:=bT hx;have hr:wr.rangeAt bk (o0+k*24) x.cells:=fun j v hj=>g4 k x.cells (by rw[List.getElem?_map,hx];rfl) j v hj;have qB:=HM.o.fit x g_;obtain⟨kd,tb,o,hs⟩:=x;have HR:=O hr;obtain⟨y,hy⟩:∃y,y=tA.cells ⟨kd,tb,o,hs⟩:=⟨_,rfl⟩;obtain⟨ah,ch,hh⟩:=qB.gX;have E7:=O (show y.length=24 by rw[hy];rfl)
    have Sy:=O (show∀u∈y,u.oneCell'=true by
     rw[hy];intro u hu;rcases bB.1 hu with rfl|hu
     ·rfl
     ·rcases bB.1 hu with rfl|hu
      ·rfl
      ·exact QH o (by rw[hh];rfl) u hu)
    rw[<-hy]at HR;have Cx:=O (show wY ((ms.take (k+1)).map tA.dS)=qT (wY ((ms.take k).map tA.dS)) ⟨kd,tb,o.dS hs⟩by rw[bZ,hx,Option.toList_some,bH];exact ML _ _);obtain⟨N,hN⟩:∃N,N=wr.heap.size:=⟨_,rfl⟩;have hUN:a.heap.size<=N:=by have:=hT.fr.size;omega
    have Er:=O (show(wr.alloc (.cells sk 66)).heap[N]?=some (.cells sk 66 (0,0))from by rw[hN];exact aB _ _);have HN:=O hN;have HT:=O hT;have aqE:=O (fun V (hV:Fr aR a V)=>qB.dh hV);have HOLD:=O (Tj qB hT.low);have HNL:=O qB.aL.2.1;have HY:=O hy;clear dN hr hx hy qB hT hN g4 hh;by_cases mf:kd=1
    ·as_aux_lemma =>
      subst mf;go_wp2_with (first
       |((with_reducible refine kt ⟨some 12,_,_,_,_,_⟩ ?_)
         refine aU rfl 66 (.tmp 11) rfl bk (o0+k*24) rfl y _ HR.o underlying66 rfl (by rw[E7.o];exact tB) ?_
         refine jb rfl 66 rfl (some 5) rfl sk AJ N HN.o.symm ?_
         refine aE rfl 66 (.tmp 5) (.tmp 12) rfl N y.toArray rfl rfl 66 sk Er.o (by rw[aW,E7.o];exact tB) (by have e:y.toArray.size=y.length:=rfl;rw[e,E7.o];rfl) (bW Sy.o) ?_
         have JB:Fr aR wr ((wr.alloc (.cells sk 66)).setRow N y.toArray):=iY ((ae aR wr).alloc _) (by rw[HN.o];exact ay _) _
         have kW:((wr.alloc (.cells sk 66)).setRow N y.toArray).heap[N]?=some (.cells y.toArray 66 (0,0)):=kS Er.o
         generalize (wr.alloc (.cells sk 66)).setRow N y.toArray=W1 at *
         have z0:W1.cell? ⟨N,0,none⟩=some (.int .i64 1):=by
           simp only[World.cell?,kW,HY.o]
           rfl
         have z1:W1.cell? ⟨N,1,none⟩=some (.int .i64 tb):=by
           simp only[World.cell?,kW,HY.o]
           rfl
         have ox:W1.rangeAt N 2 o.cells:=by
           have q:=vB kW
           rw[HY.o]at q
           exact jT (p:=[_,_]) (q:=o.cells) (r:=[]) (by rw[dR];exact q)
         have hT1:=HT.o.dh JB)
       |((with_reducible refine cY 21 ?_);refine aU rfl 41 (.tmp 20) rfl N 2 rfl o.cells _ ox underlying41 rfl af ?_)
       |fail)
      have HB:=O (Hs hT1 tb o hs (k:=2*(ms.length:Int)) ab (by
       have q:=(CH.o k hk).1;rw[ai,aJ]at q;exact q.mono ab) (aqE.o _ hT1.fr) HOLD.o HNL.o)
      refine HB.o.mono ?_;rintro e w5⟨rfl,p1, -⟩;have HP:=O p1;clear p1;go_wp2;go_roundw
      case rel=>exact⟨k+1,ab,a_,by rw[Cx.o];exact HP.o⟩
      case measure=>simp[intOf];omega
    ·by_cases su:kd=2
     ·as_aux_lemma =>
       subst su;go_wp2_with (first
        |((with_reducible refine kt ⟨some 12,_,_,_,_,_⟩ ?_)
          refine aU rfl 66 (.tmp 11) rfl bk (o0+k*24) rfl y _ HR.o underlying66 rfl (by rw[E7.o];exact tB) ?_
          refine jb rfl 66 rfl (some 5) rfl sk AJ N HN.o.symm ?_
          refine aE rfl 66 (.tmp 5) (.tmp 12) rfl N y.toArray rfl rfl 66 sk Er.o (by rw[aW,E7.o];exact tB) (by have e:y.toArray.size=y.length:=rfl;rw[e,E7.o];rfl) (bW Sy.o) ?_
          have JB:Fr aR wr ((wr.alloc (.cells sk 66)).setRow N y.toArray):=iY ((ae aR wr).alloc _) (by rw[HN.o];exact ay _) _
          have kW:((wr.alloc (.cells sk 66)).setRow N y.toArray).heap[N]?=some (.cells y.toArray 66 (0,0)):=kS Er.o
          generalize (wr.alloc (.cells sk 66)).setRow N y.toArray=W1 at *
          have z0:W1.cell? ⟨N,0,none⟩=some (.int .i64 2):=by
            simp only[World.cell?,kW,HY.o]
            rfl
          have z1:W1.cell? ⟨N,1,none⟩=some (.int .i64 tb):=by
            simp only[World.cell?,kW,HY.o]
            rfl
          have ox:W1.rangeAt N 2 o.cells:=by
            have q:=vB kW
            rw[HY.o]at q
            exact jT (p:=[_,_]) (q:=o.cells) (r:=[]) (by rw[dR];exact q)
          have hT1:=HT.o.dh JB)
        |fail)
       have HB:=O (O7 hT1 tb (k:=2*(ms.length:Int)) ab (by
        have q:=(CH.o k hk).1;rw[ai,aJ]at q;exact q.mono ab))
       refine HB.o.mono ?_;rintro e w5⟨rfl,p1, -⟩;have HP:=O p1;clear p1;go_wp2;go_roundw
       case rel=>exact⟨k+1,ab,a_,by rw[Cx.o];exact HP.o⟩
       case measure=>simp[intOf];omega
     ·by_cases Nv:kd=0
      ·as_aux_lemma =>
        subst Nv;go_wp2_with (first
         |((with_reducible refine kt ⟨some 12,_,_,_,_,_⟩ ?_)
           refine aU rfl 66 (.tmp 11) rfl bk (o0+k*24) rfl y _ HR.o underlying66 rfl (by rw[E7.o];exact tB) ?_
           refine jb rfl 66 rfl (some 5) rfl sk AJ N HN.o.symm ?_
           refine aE rfl 66 (.tmp 5) (.tmp 12) rfl N y.toArray rfl rfl 66 sk Er.o (by rw[aW,E7.o];exact tB) (by have e:y.toArray.size=y.length:=rfl;rw[e,E7.o];rfl) (bW Sy.o) ?_
           have JB:Fr aR wr ((wr.alloc (.cells sk 66)).setRow N y.toArray):=iY ((ae aR wr).alloc _) (by rw[HN.o];exact ay _) _
           have kW:((wr.alloc (.cells sk 66)).setRow N y.toArray).heap[N]?=some (.cells y.toArray 66 (0,0)):=kS Er.o
           generalize (wr.alloc (.cells sk 66)).setRow N y.toArray=W1 at *
           have z0:W1.cell? ⟨N,0,none⟩=some (.int .i64 0):=by
             simp only[World.cell?,kW,HY.o]
             rfl
           have z1:W1.cell? ⟨N,1,none⟩=some (.int .i64 tb):=by
             simp only[World.cell?,kW,HY.o]
             rfl
           have ox:W1.rangeAt N 2 o.cells:=by
             have q:=vB kW
             rw[HY.o]at q
             exact jT (p:=[_,_]) (q:=o.cells) (r:=[]) (by rw[dR];exact q)
           have hT1:=HT.o.dh JB)
         |fail)
        have HB:=O (XD hT1 tb (k:=2*(ms.length:Int)) ab (by
         have q:=(CH.o k hk).1;rw[ai,aJ]at q;exact q.mono ab) (by
         have q:=(CH.o k hk).2;rw[ai,aJ]at q;omega) ht)
        refine HB.o.mono ?_;rintro e w5⟨rfl,p1, -⟩;have HP:=O p1;clear p1;go_wp2;go_roundw
        case rel=>exact⟨k+1,ab,a_,by rw[Cx.o];exact HP.o⟩
        case measure=>simp[intOf];omega
      ·as_aux_lemma =>
        have HMV:=O (show qT (wY ((ms.take k).map tA.dS)) ⟨kd,tb,o.dS hs⟩=wY ((ms.take k).map tA.dS)by unfold qT;rw[aq mf,aq su,aq Nv]);go_wp2_with (first
         |((with_reducible refine kt ⟨some 12,_,_,_,_,_⟩ ?_)
           refine aU rfl 66 (.tmp 11) rfl bk (o0+k*24) rfl y _ HR.o underlying66 rfl (by rw[E7.o];exact tB) ?_
           refine jb rfl 66 rfl (some 5) rfl sk AJ N HN.o.symm ?_
           refine aE rfl 66 (.tmp 5) (.tmp 12) rfl N y.toArray rfl rfl 66 sk Er.o (by rw[aW,E7.o];exact tB) (by have e:y.toArray.size=y.length:=rfl;rw[e,E7.o];rfl) (bW Sy.o) ?_
           have JB:Fr aR wr ((wr.alloc (.cells sk 66)).setRow N y.toArray):=iY ((ae aR wr).alloc _) (by rw[HN.o];exact ay _) _
           have kW:((wr.alloc (.cells sk 66)).setRow N y.toArray).heap[N]?=some (.cells y.toArray 66 (0,0)):=kS Er.o
           generalize (wr.alloc (.cells sk 66)).setRow N y.toArray=W1 at *
           have z0:W1.cell? ⟨N,0,none⟩=some (.int .i64 kd):=by
             simp only[World.cell?,kW,HY.o]
             rfl
           have z1:W1.cell? ⟨N,1,none⟩=some (.int .i64 tb):=by
             simp only[World.cell?,kW,HY.o]
             rfl
           have ox:W1.rangeAt N 2 o.cells:=by
             have q:=vB kW
             rw[HY.o]at q
             exact jT (p:=[_,_]) (q:=o.cells) (r:=[]) (by rw[dR];exact q)
           have hT1:=HT.o.dh JB)
         |fail)
        have HP:=O hT1;go_roundw
        case rel=>exact⟨k+1,ab,a_,by rw[Cx.o,HMV.o];exact HP.o⟩
        case measure=>simp[intOf];omega
  ·have HE:=O (show(ms.take k).map tA.dS=ms.map tA.dS by rw[aC ab]);have HT:=O hT;clear hT;go_wp2;go_ret;rw[HE.o]at HT;exact⟨T,rfl,HT.o⟩
end
