/- DoQ, RowW, Lived. -/
import Derived.Test.YtjdmjbdkdmbaiaaGreatDoorPk46
set_option maxRecDepth 100000
set_option maxHeartbeats 16000000
set_option linter.unusedSimpArgs false
namespace Go.Proofs.YtjdmjbdkdmbaiaaGreatDoor
open Go.RowKit
theorem aR.aqh{base:Nat}{w:World}{B n:Nat}{pv:Nat->bB}{x:bW}(h:aR base w B pv x)(ku:base<=n)(hn:¬jV B pv n){cs:Array Value}{t:TypeId}(hb:w.heap[n]?=some (.cells cs t (0,0)))(ht:t≠9)(k:Nat)(v:Value) :
  aR base (w.setCell ⟨n,k,none⟩ v) B pv x/\Fr (one n) w (w.setCell ⟨n,k,none⟩ v):=by
 have fM:Fr (one n) w (w.setCell ⟨n,k,none⟩ v):=(Fr.refl (one n) w).setCell (p:=⟨n,k,none⟩) (fun _=>rfl) _;refine⟨h.fr fM ?_ (fun k hk e=>hn (by have e':k=n:=e;rw[<-e'];exact hk)),fM⟩;rintro k rfl _;exact⟨ku,fun c f e=>by rw[hb]at e;cases e;exact ht rfl⟩
theorem cb{base:Nat}{w U U':World}{B:Nat}{pv:Nat->bB}{x x':bW}(h:aR base U B pv x)(hf:Fr ay w U)(hb:w.heap.size<=base)(hp:aC base U B pv x' U') :
  ∃zu,aR base U' B zu x'/\Fr ay w U'/\∀(n:Nat) (c:Array Value) (t:TypeId),U.heap[n]?=some (.cells c t (0,0))->fJ t->t≠105->U'.heap[n]?=some (.cells c t (0,0)):=by
 have hf':=hp.frame h hf hb;obtain⟨zu,h1,h2,_⟩:=hp;exact⟨zu,h1,hf',fun n c t hn ht hw=>h2.keep hn (h.yT hn ht hw)⟩
theorem dU{base:Nat}{w U:World}{B n:Nat}{pv:Nat->bB}{x:bW}(h:aR base U B pv x)(hf:Fr ay w U)(ku:base<=n)(M7:w.heap.size<=n){cs:Array Value}{t:TypeId}(hb:U.heap[n]?=some (.cells cs t (0,0)))(ht:fJ t)(hw:t≠105)(hs:t≠9)(k:Nat)(v:Value) :
  aR base (U.setCell ⟨n,k,none⟩ v) B pv x/\Fr ay w (U.setCell ⟨n,k,none⟩ v)/\(U.setCell ⟨n,k,none⟩ v).heap[n]?=some (.cells (cs.setIfInBounds k v) t (0,0)) /\
   ∀(m:Nat) (o:Obj),m≠n->U.heap[m]?=some o->(U.setCell ⟨n,k,none⟩ v).heap[m]?=some o:=by
 obtain⟨h1,h2⟩:=h.aqh ku (h.yT hb ht hw) hb hs k v;exact⟨h1,hf.dI (p:=⟨n,k,none⟩) M7 _,aP hb k v,fun m o hm ho=>h2.keep ho (fun e=>hm e)⟩
theorem ja{w U:World}{B:Nat}{pv:Nat->bB}{x:bW}{o:ei}{hs:List dW}(h:aR w.heap.size U B pv x)(hf:Fr ay w U)(hi:fW x)(ht:fN w)(ho:bg U o hs) :
  Calls Tryz.prog 17 #[.pointer (some ⟨B,0,none⟩),.agg o.cells.toArray] U (fun e w'=>e=.returned (.agg #[.int .i64 (cV x (o.bF hs)).2.what,.string (cV x (o.bF hs)).2.head,.int .i64 (cV x (o.bF hs)).2.cert])/\aC w.heap.size U B pv (cV x (o.bF hs)).1 w') :=
 yY w.heap.size U B pv x o hs h ho hi w ht (Nat.le_refl _) hf
theorem fV{P:Program}{ops:Array Oper}{rest:List Oper}{o:Oper}{a:Act}{w:World}{Q:Exit->Act->World->Prop}(hw:Region.wanted o (yielded ops a.tmps)=true)(ty:TypeId)(x:Operand)(ho:o.op=.load ty x)
  (g:Nat)(hx:a.eval x=.pointer (some ⟨g,0,none⟩))(t:TypeId)(cs:Array Value)(fr:Nat×Nat)(d:TypeDesc)(hg:w.heap[g]?=some (.cells cs t fr))
  (hu:P.underlying ty=some d)(hd:(match d with| .struct _| .array _ _=>true|_=>false)=true)(hi:(P.info? ty).map (·.size)=some cs.size)
  (h:wpList P ops Q rest (a.put o.dst (.agg cs)) w):wpList P ops Q (o :: rest) a w :=
 Go.BigFrame.wpList_want hw fun _ hK=>wp_load_row ty x ho g hx t cs fr d hg hu hd hi (hK _ _ h)
theorem gM.fr{w w':World}{v:Value}{os:List (ei×List dW)}(h:gM w v os)(hf:Fr ay w w'):gM w' v os :=
 ⟨h.1.bu hf,h.2.1,fun o ho=>(h.2.2 o ho).fr hf⟩
theorem FA{w:World}{n m:Nat}{xs:List (List Value)}{t:TypeId}(hx:∀x∈xs,x.length=22/\∀u∈x,u.oneCell'=true)(h:w.heap[n]?=some (.cells xs.flatten.toArray t (0,0)))(hm:m=xs.length)(hl:m<=4):aN 22 w (.slice (some ⟨n,0,none⟩) m m) xs:=by
 subst hm;refine⟨hx,Or.inr ⟨n,0,xs.length,rfl,Nat.le_refl _,by unfold maxLen;omega,aj h,fun j x hj i u hi=>?_⟩⟩;simp only[World.cell?,h,Nat.zero_add];have key:∀(ys:List (List Value)),(∀z∈ys,z.length=22)->∀(j:Nat) (z:List Value) (i:Nat) (u:Value),ys[j]?=some z->z[i]?=some u->ys.flatten[j*22+i]?=some u:=by
  intro ys
  induction ys with
  |nil=>intro _ j z i u hj;cases j<;>cases hj
  |cons y ys ih =>
   intro hy j z i u hj hi;rw[List.flatten_cons];have Am:=hy y (List.mem_cons_self ..);cases j with
   |zero =>
    have e:y=z:=by simpa using hj
    subst e;have hil:=(List.getElem?_eq_some_iff.1 hi).1;rw[Nat.zero_mul,Nat.zero_add,List.getElem?_append_left (by omega)];exact hi
   |succ j =>
    rw[List.getElem?_append_right (by omega),show(j+1)*22+i-y.length=j*22+i by omega];exact ih (fun z hz=>hy z (List.mem_cons_of_mem _ hz)) j z i u (by simpa using hj) hi
 simpa using key xs (fun z hz=>(hx z hz).1) j x i u hj hi
theorem Ia(o:ei){ah:Option Addr}{ch n:Nat}(hh:o.ab.cU=.slice ah n ch):∀u∈o.cells,u.oneCell'=true:=by
 unfold ei.cells dp.cells;rw[hh];intro u hu;simp only[List.cons_append,List.nil_append,List.mem_cons,List.not_mem_nil,or_false]at hu;rcases hu with rfl|rfl|rfl|rfl|rfl|rfl|rfl|rfl|rfl|rfl|rfl|rfl|rfl|rfl|rfl|rfl|rfl|rfl|rfl|rfl|rfl|rfl<;>rfl
theorem gM.one{w:World}{n:Nat}{t:TypeId}{o:ei}{hs:List dW}{ah:Option Addr}{ch:Nat}(h:jw w o hs)(hh:o.ab.cU=.slice ah hs.length ch)(hb:w.heap[n]?=some (.cells o.cells.toArray t (0,0))):gM w (.slice (some ⟨n,0,none⟩) 1 1) [(o,hs)]:=by
 refine⟨FA (xs:=[o.cells]) (fun x hx=>?_) (by simpa using hb) rfl (by decide),by simp,fun p hp=>?_⟩
 ·rw[List.mem_singleton]at hx;subst hx;exact⟨rfl,Ia o hh⟩
 ·rw[List.mem_singleton]at hp;subst hp;exact h
theorem vA(o:ei)(hs:List dW):jy [(o,hs)]=!fU (o,hs):=by
 unfold jy;simp
theorem gM.two{w:World}{n:Nat}{t:TypeId}{o q:ei}{hs qs:List dW}{ah ah':Option Addr}{ch ch':Nat}(h:jw w o hs)(h':jw w q qs)(hh:o.ab.cU=.slice ah hs.length ch)(hh':q.ab.cU=.slice ah' qs.length ch')(hb:w.heap[n]?=some (.cells (o.cells++q.cells).toArray t (0,0))):gM w (.slice (some ⟨n,0,none⟩) 2 2) [(o,hs),(q,qs)]:=by
 refine⟨FA (xs:=[o.cells,q.cells]) (fun x hx=>?_) (by simpa using hb) rfl (by decide),by simp,fun p hp=>?_⟩
 ·simp only[List.mem_cons,List.not_mem_nil,or_false]at hx;rcases hx with rfl|rfl
  ·exact⟨rfl,Ia o hh⟩
  ·exact⟨rfl,Ia q hh'⟩
 ·simp only[List.mem_cons,List.not_mem_nil,or_false]at hp;rcases hp with rfl|rfl
  ·exact h
  ·exact h'
theorem Mx(o q:ei)(hs qs:List dW):jy [(o,hs),(q,qs)]=!(fU (o,hs)||fU (q,qs)):=by
 unfold jy;simp
theorem bg.qv{w:World}{o:ei}{hs:List dW}(h:bg w o hs)(n:Int)(h0:0<=n)(h1:n<=10):bg w {o with what:=n} hs:={h with what:=⟨by show -9223372036854775808<=n;omega,by show n<=9223372036854775807;omega⟩}
theorem bg.vB{w:World}{q o:ei}{hs qs:List dW}(h:bg w q qs)(h':bg w o hs)(n:Int)(h0:0<=n)(h1:n<=10):bg w {q with what:=n,ab:={q.ab with part:=o.ab.part}} qs :=
 {h with ab:=h.ab,part:=h'.part,what:=⟨by show -9223372036854775808<=n;omega,by show n<=9223372036854775807;omega⟩}
theorem bg.vC{w:World}{q o:ei}{hs qs:List dW}(h:bg w q qs)(h':bg w o hs)(n:Int)(h0:0<=n)(h1:n<=10):bg w {q with what:=n,ab:={q.ab with part:=o.ab.part,o:=o.ab.o}} qs :=
 {h with ab:=h.ab,part:=h'.part,ori:=h'.ori,Pv:=h'.Pv,what:=⟨by show -9223372036854775808<=n;omega,by show n<=9223372036854775807;omega⟩}
theorem bg.XS{w:World}{o:ei}{hs:List dW}(h:bg w o hs)(n:Int)(h0:0<=n)(h1:n<=10)(b:Bool):bg w {o with what:=n,all:=b} hs :=
 {h with what:=⟨by show -9223372036854775808<=n;omega,by show n<=9223372036854775807;omega⟩}
theorem rH(a c:Int)(s:ByteArray)(u:World):Sem.run Tryz.prog (Instr.field 39 (.agg #[.int .i64 a,.string s,.int .i64 c]) 0) u=.ok (.int .i64 a) u:=by kernel_rfl
theorem VK:∃W1 W2 W3:bW,cV yD (zH 2)=(W1,⟨3,⟨#[]⟩,0⟩)/\cV W1 (zH 3)=(W2,⟨1,⟨#[]⟩,0⟩)/\cV W2 (zH 1)=(W3,⟨1,⟨#[66,97,115,105,99,32,100,84,112,119]⟩,0⟩)/\(W3.part 0).aH.length=1/\fW W1/\fW W2 :=
 ⟨JS,JT,Xp,Prod.ext rfl aoA,Prod.ext rfl aoB,Prod.ext rfl aoC,aoD,Xq,ahl⟩
def Ib(n:Int):ei:=⟨n,⟨0,yK,yK,⟨#[47]⟩,⟨#[]⟩,⟨#[71,69,84]⟩,.slice none 0 0,false,⟨#[]⟩⟩,false,⟨#[66,97,115,105,99,32,114,101,97,108,109,61,114]⟩,⟨#[117]⟩,⟨#[112]⟩,⟨#[]⟩,0,false,0⟩
theorem Ic(n:Int):(Ib n).bF []=zH n:=rfl
def po(n:Int):Array Value:= #[.int .i64 n,.int .i64 0,.bool true,.string ⟨#[97,46,116,101,115,116]⟩,.int .i64 443,.bool true,.string ⟨#[97,46,116,101,115,116]⟩,.int .i64 443,.string ⟨#[47]⟩,.string ⟨#[]⟩,.string ⟨#[71,69,84]⟩,.slice none 0 0,.bool false,.string ⟨#[]⟩,.bool false,.string ⟨#[66,97,115,105,99,32,114,101,97,108,109,61,114]⟩,.string ⟨#[117]⟩,.string ⟨#[112]⟩,.string ⟨#[]⟩,.int .i64 0,.bool false,.int .i64 0]
theorem Ie(n:Int):(Ib n).cells.toArray=po n:=rfl
theorem FB(a b:Int):(po a).setIfInBounds 0 (.int .i64 b)=po b:=by unfold po;simp
theorem Qs(a:Int):(po a)[0]?=some (.int .i64 a):=rfl
theorem Qt(w:World):bg w (Ib 0) [] :=
 ⟨aN.nil _ _,⟨by decide,by decide,fun _ h=>by cases h⟩,by decide,by decide,by decide,by decide,by decide,by decide,by decide,by decide,by decide,by decide,by decide,by decide,by decide,by decide,by decide,by decide⟩
theorem CB(n:Int)(w:World)(h0: -9223372036854775808<=n)(h1:n<=9223372036854775807):bg w (Ib n) []:={Qt w with what:=⟨h0,h1⟩}
theorem FC(a c:Int)(s:ByteArray)(w:World):(binOp .eql 39 (.agg #[.int .i64 a,.string s,.int .i64 c]) (.agg #[.int .i64 a,.string s,.int .i64 c])).run Tryz.prog w=.ok (.bool true) w:=by
 go_simp
theorem qU(w:World)(ht:fN w):Calls Tryz.prog 14 #[] w fun e w'=>e=.returned (.bool true)/\Fr ay w w':=by
 have HT:=O ht;obtain⟨lw1,lw2,lw3,le1,le2,le3,le4,li1,li2⟩:=VK;have LE1:=O le1;have LE2:=O le2;have LE3:=O le3;have LE4:=O le4;have HRI:=O (show(Tryz.prog.info? 33).map (·.size)=some (po 2).size by kernel_rfl);have HRO:=O (show(po 2).all (·.oneCell')=true by decide +kernel);have LI1:=O li1;have LI2:=O li2;clear ht le1 le2 le3 le4 li1 li2;go_enter Tryz.func14,Tryz.ntmps14;go_wp2_with fail
 refine(J5 w).mono ?_;rintro e w1⟨B,pv1,rfl,jt,bt⟩;have D3:=O (jt w.heap.size (Nat.le_refl _));have gV:=O bt;clear jt bt;go_wp2_with fail
 refine(EH w1).mono ?_;rintro e w2⟨rfl,bq⟩;unfold cO.cells yK;go_wp2_with fail
 refine(EH w2).mono ?_;rintro e w3⟨rfl,dv⟩;unfold cO.cells yK;obtain⟨x1,sM⟩:∃x1,x1=w3.alloc (.cells (po 2) 33):=⟨_,rfl⟩;have abf:Fr ay w1 x1:=by rw[sM];exact(bq.trans dv).alloc _
 have OL:=O (show x1.heap[w3.heap.size]?=some (.cells (po 2) 33 (0,0))by rw[sM];exact af _ _);have j6:=O (show w.heap.size<=w3.heap.size from(gV.out.trans (bq.trans dv)).size);have HX1:=O (D3.out.bd abf);have Tg:=O (gV.out.trans abf);have HY1:=O sM;have HZ1:=OL.out;rw[sM]at HZ1;have aql:=O HZ1;clear bq dv abf sM HZ1
 have HD1:=O (show Calls Tryz.prog 17 #[.pointer (some ⟨B,0,none⟩),.agg (po 2)] x1 (fun e w'=>e=.returned (.agg #[.int .i64 3,.string ⟨#[]⟩,.int .i64 0])/\aC w.heap.size x1 B pv1 lw1 w')from by
  have h:=yY w.heap.size x1 B pv1 yD (Ib 2) [] HX1.out (CB 2 x1 (by decide) (by decide)) fW.new w HT.out (Nat.le_refl _) Tg.out;rw[Ic,Ie,LE1.out]at h;exact h)
 go_wp2_with (first|((with_reducible refine ag ⟨some 16,_,_,_,_,_⟩ ?_);go_must(refine wpList_load_row rfl 33 (.tmp 2) rfl w3.heap.size rfl _ (po 2) (0,0) _ aql.out Tryz.underlying33 rfl (by kernel_rfl) ?_))|((with_reducible refine ag ⟨none,.store 33 (.tmp 2) (.tmp 14),_,_,_,_⟩ ?_);go_must(refine ks rfl 33 (.tmp 2) (.tmp 14) rfl zOp (po 2) rfl rfl HRI.out rfl HRO.out ?_))|fail)
 rw[<-HY1.out];refine HD1.out.mono ?_;rintro e v1⟨rfl,hp⟩;obtain⟨pv2,hv,Al,dH⟩:=cb HX1.out Tg.out (Nat.le_refl _) hp;have My:=dH _ _ _ OL.out aO (by decide);have Gn:w3.heap.size<v1.heap.size:=aj My;obtain⟨s1,hs⟩:∃s1,s1=v1.setCell ⟨w3.heap.size,0,none⟩ (.int .i64 3):=⟨_,rfl⟩;obtain⟨qa,qb,qc,qd⟩:=dU hv Al j6.out j6.out My aO (by decide) (by decide) 0 (.int .i64 3)
 have c0:v1.cell? ⟨w3.heap.size,0,none⟩=some (.int .i64 2):=by simp only[World.cell?,My];exact Qs _
 have z0:v1.frozen? ⟨w3.heap.size,0,none⟩=false:=by simp[World.frozen?,My]
 rw[FB]at qc;rw[<-hs]at qa qb qc qd;have hss:s1.heap.size=v1.heap.size:=by rw[hs];simp[World.setCell]
 have dF:Fr ay s1 (s1.alloc (.cells #[.int .i64 3,.string ⟨#[]⟩,.int .i64 0] 39)):=(Fr.refl _ _).alloc _;have hra:=af s1 (.cells #[.int .i64 3,.string ⟨#[]⟩,.int .i64 0] 39);obtain⟨x2,hx⟩:∃x2,x2=s1.alloc (.cells #[.int .i64 3,.string ⟨#[]⟩,.int .i64 0] 39):=⟨_,rfl⟩;have mB:=dF.keep qc (fun h=>h)
 have ai4:=O (show x2.heap[v1.heap.size]?=some (.cells #[.int .i64 3,.string ⟨#[]⟩,.int .i64 0] 39 (0,0))from by rw[hx, <-hss];exact hra);have He:=O Gn;have Xs:=O (show aR w.heap.size x2 B pv2 lw1 by rw[hx];exact qa.bd dF);have mj:=O (show x2.heap[w3.heap.size]?=some (.cells (po 3) 33 (0,0))by rw[hx];exact mB);have Xh:=O (show Fr ay w x2 by rw[hx];exact qb.trans dF);rw[hs]at hx;have HY2:=O hx
 have Vx:=mj.out;rw[hx]at Vx;have aqn:=O Vx;clear hx hs qa qb qc qd mB hra dF My Al hv dH Vx hp hss;have Wx:=O (show Calls Tryz.prog 17 #[.pointer (some ⟨B,0,none⟩),.agg (po 3)] x2 (fun e w'=>e=.returned (.agg #[.int .i64 1,.string ⟨#[]⟩,.int .i64 0])/\aC w.heap.size x2 B pv2 lw2 w')from by
  have h:=yY w.heap.size x2 B pv2 lw1 (Ib 3) [] Xs.out (CB 3 x2 (by decide) (by decide)) LI1.out w HT.out (Nat.le_refl _) Xh.out;rw[Ic,Ie,LE2.out]at h;exact h)
 go_wp2_with (first|((with_reducible refine ag ⟨some 20,_,_,_,_,_⟩ ?_);go_must(refine wpList_load_row rfl 33 (.tmp 2) rfl w3.heap.size rfl _ (po 3) (0,0) _ aqn.out Tryz.underlying33 rfl (by kernel_rfl) ?_))|fail)
 rw[<-HY2.out];refine Wx.out.mono ?_;rintro e v2⟨rfl,hp⟩;obtain⟨pv3,hv,Al,dH⟩:=cb Xs.out Xh.out (Nat.le_refl _) hp;have My:=dH _ _ _ mj.out aO (by decide);have sL:=dH _ _ _ ai4.out aD (by decide);have Gn:w3.heap.size<v2.heap.size:=aj My;obtain⟨s2,hs⟩:∃s2,s2=v2.setCell ⟨w3.heap.size,0,none⟩ (.int .i64 1):=⟨_,rfl⟩
 obtain⟨qa,qb,qc,qd⟩:=dU hv Al j6.out j6.out My aO (by decide) (by decide) 0 (.int .i64 1);have c0:v2.cell? ⟨w3.heap.size,0,none⟩=some (.int .i64 3):=by simp only[World.cell?,My];exact Qs _
 have z0:v2.frozen? ⟨w3.heap.size,0,none⟩=false:=by simp[World.frozen?,My]
 rw[FB]at qc;rw[<-hs]at qa qb qc qd;have hss:s2.heap.size=v2.heap.size:=by rw[hs];simp[World.setCell]
 have dF:Fr ay s2 (s2.alloc (.cells #[.int .i64 1,.string ⟨#[]⟩,.int .i64 0] 39)):=(Fr.refl _ _).alloc _;have hra:=af s2 (.cells #[.int .i64 1,.string ⟨#[]⟩,.int .i64 0] 39);obtain⟨x3,hx⟩:∃x3,x3=s2.alloc (.cells #[.int .i64 1,.string ⟨#[]⟩,.int .i64 0] 39):=⟨_,rfl⟩;have mB:=dF.keep qc (fun h=>h)
 have ai5:=O (show x3.heap[v2.heap.size]?=some (.cells #[.int .i64 1,.string ⟨#[]⟩,.int .i64 0] 39 (0,0))from by rw[hx, <-hss];exact hra);have ai6:=O (show x3.heap[v1.heap.size]?=some (.cells #[.int .i64 3,.string ⟨#[]⟩,.int .i64 0] 39 (0,0))from by rw[hx];exact dF.keep (qd _ _ (by have:=He.out;omega) sL) (fun h=>h));have HQ2:=O Gn
 have Vt:=O (show aR w.heap.size x3 B pv3 lw2 by rw[hx];exact qa.bd dF);have zK:=O (show x3.heap[w3.heap.size]?=some (.cells (po 1) 33 (0,0))by rw[hx];exact mB);have Pp:=O (show Fr ay w x3 by rw[hx];exact qb.trans dF);rw[hs]at hx;have HY3:=O hx;have Vx:=zK.out;rw[hx]at Vx;have aqo:=O Vx;clear hx hs qa qb qc qd mB hra dF My Al hv dH Vx hp hss sL
 have HD3:=O (show Calls Tryz.prog 17 #[.pointer (some ⟨B,0,none⟩),.agg (po 1)] x3 (fun e w'=>e=.returned (.agg #[.int .i64 1,.string ⟨#[66,97,115,105,99,32,100,84,112,119]⟩,.int .i64 0])/\aC w.heap.size x3 B pv3 lw3 w')from by
  have h:=yY w.heap.size x3 B pv3 lw2 (Ib 1) [] Vt.out (CB 1 x3 (by decide) (by decide)) LI2.out w HT.out (Nat.le_refl _) Pp.out;rw[Ic,Ie,LE3.out]at h;exact h)
 go_wp2_with (first|((with_reducible refine ag ⟨some 24,_,_,_,_,_⟩ ?_);go_must(refine wpList_load_row rfl 33 (.tmp 2) rfl w3.heap.size rfl _ (po 1) (0,0) _ aqo.out Tryz.underlying33 rfl (by kernel_rfl) ?_))|fail)
 rw[<-HY3.out];refine HD3.out.mono ?_;rintro e v3⟨rfl,hp⟩;obtain⟨pv4,hv,Al,dH⟩:=cb Vt.out Pp.out (Nat.le_refl _) hp;have My:=dH _ _ _ zK.out aO (by decide);have sL:=dH _ _ _ ai6.out aD (by decide);have kR:=dH _ _ _ ai5.out aD (by decide);have dF:Fr ay v3 (v3.alloc (.cells #[.int .i64 1,.string ⟨#[66,97,115,105,99,32,100,84,112,119]⟩,.int .i64 0] 39)):=(Fr.refl _ _).alloc _
 have s1:=dF.keep sL (fun h=>h);have s2:=dF.keep kR (fun h=>h);have q1:(v3.alloc (.cells #[.int .i64 1,.string ⟨#[66,97,115,105,99,32,100,84,112,119]⟩,.int .i64 0] 39)).cell? ⟨v1.heap.size,0,none⟩=some (.int .i64 3):=by simp only[World.cell?,s1];rfl
 have q2:(v3.alloc (.cells #[.int .i64 1,.string ⟨#[66,97,115,105,99,32,100,84,112,119]⟩,.int .i64 0] 39)).cell? ⟨v2.heap.size,0,none⟩=some (.int .i64 1):=by simp only[World.cell?,s2];rfl
 have heq:=FC 1 0 ⟨#[66,97,115,105,99,32,100,84,112,119]⟩;have Fa:=O (wE w.heap.size _ B pv4 lw3 (hv.bd dF) 0 (by decide) (by rw[LE4.out];decide));have nj:=O (Al.alloc (.cells #[.int .i64 1,.string ⟨#[66,97,115,105,99,32,100,84,112,119]⟩,.int .i64 0] 39));clear s1 s2 dF My Al hv dH sL kR c0 z0 Gn hp;go_wp2_with fail
 refine Fa.out.mono ?_;rintro e u⟨gv,rfl,hgn,qJ⟩;obtain⟨⟨rs,a_,hbt⟩,_⟩:=hgn;obtain⟨ga,gc,cA⟩:=a_.at.form;rw[List.length_map,hbt.len,LE4.out]at cA;subst cA;have HFE:=O (nj.out.trans qJ);clear a_ hbt qJ Fa;go_wp2_with fail
 go_ret;exact⟨rfl,HFE.out⟩
end Go.Proofs.YtjdmjbdkdmbaiaaGreatDoor
