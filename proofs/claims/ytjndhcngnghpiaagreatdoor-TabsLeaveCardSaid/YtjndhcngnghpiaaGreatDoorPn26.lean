/- Lemmas for the law's walk. -/
import Derived.Test.YtjndhcngnghpiaaGreatDoorPn16
set_option maxRecDepth 100000
set_option maxHeartbeats 16000000
set_option linter.unusedSimpArgs false
namespace Go.Proofs.YtjndhcngnghpiaaGreatDoor
open Go.Proofs.Tryz
open Go.RowKit
theorem nv.one{base:Nat}{w:World}{b:Nat}{gv wv:Value}{gs:List (aP bE)}{u:List (bI bE)×Option (bI bE)}{e:Ending}{w':World}(h:nv base w b gv wv gs u e w') :
  kr base w b gv wv gs u.1 w'/\∃X:bS,e=.returned (.tuple #[.agg X,.bool u.2.isSome])/\X.size=13/\X.all (·.oneCell')=true/\∀x,u.2=some x->∃r:bI Value,X=r.cells.toArray/\r.Reads (du base w') x:=by
 obtain⟨h1,h2⟩:=h;refine⟨h1,?_⟩;cases hu:u.2 with
 |none=>rw[hu]at h2;exact⟨vR,h2,rfl,PQ,fun x hx=>by cases hx⟩
 |some g =>
  rw[hu]at h2;obtain⟨r,e1,e2,e3⟩:=h2;exact⟨r.cells.toArray,e1,rfl,bW e3,fun x hx=>by cases hx;exact⟨r,rfl,e2⟩⟩
theorem LJ{X:bS}(h:X.size=13):(prog.info? 129).map (·.size)=some X.size:=by rw[h];kernel_rfl
def AnJ(base:Nat)(w2:World)(B off:Nat)(cs:aX)(v:cU)(p:eD)(x:Option (bI bE))(n:Nat)(X:bS)(W:World):Prop :=
 sK base w2 B off cs v p n X 129 W/\∀g,x=some g->∃r:bI Value,X=r.cells.toArray/\r.Reads (du base W) g
theorem IA(base:Nat)(w:World)(B off:Nat)(cs:aX)(v:cU)(p:eD)(o:jz)(hs:List gY)(h:eP base w v p)(ha:gP w B cs off v)(ou:base<=B)(hf:gB w o hs)(hk:nd p)(hwp:∀x∈p.waits,x.path.size<=5000) :
  aB 44 #[.pointer (some ⟨B,off,none⟩),.agg o.cells.toArray] w (eG base w B cs off v (lh p (o.dS hs))):=by
 have uA:B<w.heap.size:=bj ha.eJ;have Gr:¬v.jT B:=h.fg ha.eJ ag;obtain⟨ah,ch,gD⟩:=hf.gT;obtain⟨w2,eA⟩:∃w2,w2=(w.alloc (.cells o.cells.toArray 33)).alloc (.cells bR 46):=⟨_,rfl⟩;have dz:Fr aS w w2:=by rw[eA];exact((ae aS w).alloc _).alloc _
 have k1:w2.heap[w.heap.size]?=some (.cells o.cells.toArray 33 (0,0)):=by rw[eA];exact((ae aS _).alloc _).keep (aC _ _) id
 have k2:w2.heap[w.heap.size+1]?=some (.cells bR 46 (0,0)):=by
  have h:=aC (w.alloc (.cells o.cells.toArray 33)) (.cells bR 46);rw[bN]at h;rw[eA];exact h
 have wT:w2.heap.size=w.heap.size+2:=by rw[eA];simp
 have VU:=O (show∀U,Fr aS w2 U->U.heap[w.heap.size]?=some (.cells o.cells.toArray 33 (0,0))from fun U hU=>hU.keep k1 id);have Cs:=O Gr;have HH:=O h;have HA:=O ha;have HF:=O hf;have lu:=O gD;have HK:=O hk;have fY:=O dz;have mJ:=O k1;have qG:=O k2;have oY:=O (show base<=w.heap.size from ab);have wW:=O ou;have oT:=O uA;have RD:=O eA
 obtain⟨a0,a1,a2,a3,a4,a5,a6,a7,a8,a9,jA,jB,a12,jx,jC,jd,jK,jL,jM,jU,a20,a21⟩:=eh k1 gD;rw[eA]at a0 a1 a2 a3 a4 a5 a6 a7 a8 a9 jA jB a12 jx jC jd jK jL jM jU a20 a21;rw[dZ gD]at eA a0 a1 a2 a3 a4 a5 a6 a7 a8 a9 jA jB a12 jx jC jd jK jL jM jU a20 a21 ⊢;unfold bR at eA a0 a1 a2 a3 a4 a5 a6 a7 a8 a9 jA jB a12 jx jC jd jK jL jM jU a20 a21;have nD:=O eA;clear eA gD dz k1 k2 h ha hf Gr hk
 go_enter func44,ntmps44;have RR:=HK.o.qZ;have HC:=O (show∀U,Fr (dv v.b v.gv v.wv) w2 U->(U.cell? ⟨B,off,none⟩=some (.pointer (some ⟨v.b,0,none⟩))/\U.cell? ⟨w.heap.size,5,none⟩=some (.bool o.aJ.o.aE)/\U.cell? ⟨w.heap.size,6,none⟩=some (.string o.aJ.o.host)/\U.cell? ⟨w.heap.size,7,none⟩=some (.int .i64 o.aJ.o.port)/\U.cell? ⟨w.heap.size,14,none⟩=some (.bool o.proxy))from fun U hU=>by
  have j1:=(HA.o.di fY.o).fr hU (fun hb=>Cs.o (Or.inl hb));have j2:=hU.keep mJ.o (fun hb=>(HH.o.di fY.o).fg mJ.o jb (Or.inl hb));obtain⟨a0,a1,a2,a3,a4,a5,a6,a7,a8,a9,jA,jB,a12,jx,jC,jd,jK,jL,jM,jU,a20,a21⟩:=eh j2 lu.o;exact⟨j1.cell0,a5,a6,a7,jC⟩)
 have Qx:=O (show∀U,Fr aS w2 U->aB 81 #[.pointer (some ⟨v.b,0,none⟩),.agg #[.bool o.aJ.o.aE,.string o.aJ.o.host,.int .i64 o.aJ.o.port],.bool o.proxy] U (nv base U v.b v.gv v.wv p.bU (ma o.aJ.o o.proxy p.waits))from fun U hU=>KL base U v.b v.gv v.wv p.bU p.waits o.aJ.o o.proxy ((HH.o.di fY.o).di hU).ot ab);have rY:=nD.o;go_wp2_with fail
 rw[<-rY];clear a0 a1 a2 a3 a4 a5 a6 a7 a8 a9 jA jB a12 jx jC jd jK jL jM jU a20 a21 rY wT;have ajD:=O (show base<=w2.heap.size from aF oY.o fY.o.size);have ajE:=O (show B<w2.heap.size from cO oT.o fY.o.size);obtain⟨tk,htk⟩:∃tk,tk=ma o.aJ.o o.proxy p.waits:=⟨_,rfl⟩;rw[<-htk]at Qx;have HTE:=O htk;clear htk;obtain⟨ok,Cn⟩:∃ok,ok=tk.2.isSome:=⟨_,rfl⟩;have M_:=O Cn;clear Cn
 apply VB (P:=AnJ base w2 B off cs v {p with waits:=tk.1} tk.2)
 ·intro hJ;have HJ:=O hJ;clear hJ;refine wp_region_held_drew (S:=(fun U=>U.cell? ⟨B,off,none⟩=some (.pointer (some ⟨v.b,0,none⟩))/\U.cell? ⟨w.heap.size,5,none⟩=some (.bool o.aJ.o.aE)/\U.cell? ⟨w.heap.size,6,none⟩=some (.string o.aJ.o.host)/\U.cell? ⟨w.heap.size,7,none⟩=some (.int .i64 o.aJ.o.port)/\U.cell? ⟨w.heap.size,14,none⟩=some (.bool o.proxy))) af (HC.o _ (az (ae _ _))) ?_;intro Aj
  refine aW 0 8 rfl ?_;refine aW 1 9 rfl ?_;refine aW 2 10 rfl ?_;refine aW 3 11 rfl ?_;refine aW 4 12 rfl ?_;refine aW 5 13 rfl ?_;refine aW 6 14 rfl ?_;refine aW 7 15 rfl ?_;refine aW 8 16 rfl ?_;refine aW 9 17 rfl ?_;refine D7 10 14 rfl rfl (fun K hK=>?_) fun K hK=>?_
  ·go_simp;refine(Qx.o _ (az (ae _ _))).mono ?_;rintro e u3 Lq;obtain⟨sV,X,rfl,Gs,Lr,DX⟩:=nv.one Lq;rw[<-M_.o];have Jl:=O sV;have HX:=O (And.intro Gs (And.intro Lr DX));have vW:Fr (dv v.b v.gv v.wv) w2 u3:=(az (ae _ _)).trans (by obtain⟨_,_,_,h,_⟩:=sV;exact h);have A1:=O vW;clear Lq sV Gs Lr DX vW;refine hK.out _ _ (HC.o _ A1.o) ?_;intro yl;clear hK Aj K
   try simp only[Act.put,sA,sB,sC]
   refine aW 11 7 rfl ?_;refine aW 12 19 rfl ?_;refine aW 13 20 rfl ?_;refine eT 14 rfl fun K hK=>?_;go_simp;obtain⟨n,hne⟩:∃n,n=u3.heap.size:=⟨_,rfl⟩;obtain⟨w4,qt⟩:∃w4,w4=u3.alloc (.cells vR 129):=⟨_,rfl⟩;have VV:w4.heap[n]?=some (.cells vR 129 (0,0)):=by rw[qt,hne];exact aC _ _
   have kD:Fr (dv v.b v.gv v.wv) w2 w4:=by rw[qt];exact A1.o.alloc _
   have ZZ:=O VV;have jO:=O kD;have NS:=O qt;have Ce:=O hne;rw[<-qt, <-hne];clear qt hne VV kD;refine hK.out _ _ (HC.o _ jO.o) ?_;intro BJ;clear hK yl K
   try simp only[Act.put,sA,sB,sC]
   refine eT 15 rfl fun K hK=>?_;refine jJ rfl 129 (.tmp 5) (.tmp 19) rfl n X rfl rfl 129 vR ZZ.o (LJ HX.o.1) HX.o.1.symm HX.o.2.1 ?_;obtain⟨W,hW⟩:∃W,W=w4.setRow n X:=⟨_,rfl⟩;have BK:Fr (dv v.b v.gv v.wv) w2 W:=by rw[hW];exact jc jO.o (by rw[Ce.o];exact A1.o.size) _
   have hP:=sK.after (z:=vR) (dh (az (ae aS w2)) (eR ((HH.o.di fY.o).di (az (ae aS w2))) ((HA.o.di fY.o).di (az (ae aS w2))) Cs.o Jl.o)) ajD.o ajE.o (t:=129) ag X;rw[<-NS.o, <-Ce.o, <-hW]at hP;rw[<-hW];refine hK.out _ _ (HC.o _ BK) ?_;intro E_;clear hK BJ K
   try simp only[Act.put,sA,sB,sC]
   refine aW 16 6 rfl ?_;clear E_;refine wpAnyH_done af ?_ _;exact HJ.o n X W ⟨hP.1,fun g hg=>by
    obtain⟨r,e1,e2⟩:=HX.o.2.2 g hg;exact⟨r,e1,e2.mono (fun v l h=>hP.2 v l h)⟩⟩
  ·go_simp;obtain⟨n,hne⟩:∃n,n=w2.heap.size:=⟨_,rfl⟩;obtain⟨w4,qt⟩:∃w4,w4=(w2.alloc (.cells vR 129)).drew:=⟨_,rfl⟩;have VV:w4.heap[n]?=some (.cells vR 129 (0,0)):=by rw[qt,hne];exact aC w2 _
   have kD:Fr aS w2 w4:=by rw[qt];exact((ae _ _).alloc _).drew
   have ZZ:=O VV;have jO:=O kD;have Ce:=O (show w2.heap.size<=n from ab);rw[<-qt, <-hne];clear qt hne VV kD;refine hK.out _ _ (HC.o _ (jO.o.mono (fun _ _ h=>absurd h id))) ?_;intro yl;clear hK Aj K
   try simp only[Act.put,sA,sB,sC]
   refine eT 10 rfl fun K hK=>?_;go_simp;refine(Qx.o _ jO.o).mono ?_;rintro e u3 Lq;obtain⟨sV,X,rfl,Gs,Lr,DX⟩:=nv.one Lq;rw[<-M_.o];have Jl:=O sV;have HX:=O (And.intro Gs (And.intro Lr DX));have vW:Fr (dv v.b v.gv v.wv) w2 u3:=(jO.o.mono (fun _ _ h=>absurd h id)).trans (by obtain⟨_,_,_,h,_⟩:=sV;exact h)
   have T5:u3.heap[n]?=some (.cells vR 129 (0,0)):=(show Fr (dv v.b v.gv v.wv) w4 u3 by obtain⟨_,_,_,h,_⟩:=sV;exact h).keep ZZ.o (fun hb=>by have:=(HH.o.di fY.o).jf (Or.inl hb);have:=Ce.o;omega);have A1:=O vW;have HZ3:=O T5;clear Lq sV Gs Lr DX vW T5;refine hK.out _ _ (HC.o _ A1.o) ?_;intro BJ;clear hK yl K
   try simp only[Act.put,sA,sB,sC]
   refine aW 11 7 rfl ?_;refine aW 12 19 rfl ?_;refine aW 13 20 rfl ?_;refine eT 15 rfl fun K hK=>?_;refine jJ rfl 129 (.tmp 5) (.tmp 19) rfl n X rfl rfl 129 vR HZ3.o (LJ HX.o.1) HX.o.1.symm HX.o.2.1 ?_;obtain⟨W,hW⟩:∃W,W=u3.setRow n X:=⟨_,rfl⟩;have BK:Fr (dv v.b v.gv v.wv) w2 W:=by rw[hW];exact jc A1.o Ce.o _
   have hP:=sK.before (HH.o.di fY.o) jO.o Ce.o ZZ.o (eR ((HH.o.di fY.o).di jO.o) ((HA.o.di fY.o).di jO.o) Cs.o Jl.o) ajD.o ajE.o ag X;rw[<-hW]at hP;rw[<-hW];refine hK.out _ _ (HC.o _ BK) ?_;intro E_;clear hK BJ K
   try simp only[Act.put,sA,sB,sC]
   refine aW 16 6 rfl ?_;clear E_;refine wpAnyH_done af ?_ _;exact HJ.o n X W ⟨hP.1,fun g hg=>by
    obtain⟨r,e1,e2⟩:=HX.o.2.2 g hg;exact⟨r,e1,e2.mono (fun v l h=>hP.2 v l h)⟩⟩
 ·intro n X W hj;obtain⟨⟨v1,i1,f1,BI,VW,hX,VX,VC⟩,Gq⟩:=hj;have aa1:=ik (HA.o.di fY.o) VW;have o1:=eI (HH.o.di fY.o) f1 mJ.o jb ab;have r1:=eI (HH.o.di fY.o) f1 qG.o dJ ab;have I1:=O i1;have F1:=O f1;have FT1:=O BI;have Ls:=O aa1;have O1:=O o1;have R1:=O r1;have HXB:=O hX;have HNF:=O VX;have HNA:=O VC;clear i1 f1 BI aa1 o1 r1 VW hX VX VC Qx HC;cases R_:tk.2 with
  |none =>
   have rG:ok=false:=by rw[M_.o,R_];rfl
   have HR:=O (show lh p (o.dS hs)=({p with waits:=tk.1},rep 2)by
    unfold lh;rw[show ma (o.dS hs).o (o.dS hs).proxy p.waits=(tk.1,none)from by rw[<-R_];exact HTE.o.symm])
   have HP:=O (show dm base w2 B cs off v {p with waits:=tk.1} W from⟨v1,I1.o,F1.o,FT1.o,Ls.o.eJ⟩);rw[rG];clear Gq R_ M_ HTE rG;go_wp2_with (first|((with_reducible refine cV 46 ?_);refine aG rfl 46 (.tmp 4) (.tmp 23) rfl (w.heap.size+1) #[.int .i64 2,.string ⟨#[]⟩,.int .i64 0] rfl rfl _ bR R1.o (bf _ rfl) rfl ct ?_)|fail)
   refine aU (bu bC _ _ (w.heap.size+1) 46 #[.int .i64 2,.string ⟨#[]⟩,.int .i64 0] (0,0) _ rfl (aY _ (w.heap.size+1) _ _ _ _ R1.o) underlying46 rfl (bf _ rfl)) rfl ?_;unfold eG;rw[HR.o];exact⟨rfl,dy (HP.o.after fY.o) oY.o oT.o (bV _) R1.o eL ag _⟩
  |some g =>
   have rG:ok=true:=by rw[M_.o,R_];rfl
   obtain⟨r,XE,hr⟩:=Gq g R_;have hgm:g∈p.waits:=AU (o:=o.aJ.o) (proxy:=o.proxy) (by rw[<-HTE.o];exact R_);have hgp:=hwp g hgm;have HR:=O (show lh p (o.dS hs)=({p with waits:=tk.1,bU:=uZ p.bU ⟨g.o,g.proxy,o.user,o.pass,g.a,0,nO g.a g.proxy g.path⟩},rep 1)by
    unfold lh;rw[show ma (o.dS hs).o (o.dS hs).proxy p.waits=(tk.1,some g)from by rw[<-R_];exact HTE.o.symm];rfl)
   obtain⟨q1,q2,q3,q4⟩:=hr;have qa:=q4;obtain⟨e1,e2,e3,e4,e5,e6,e7,AM⟩:=q4;obtain⟨ad,cd,xl⟩:=AM.rd.form;have xh:X= #[.bool g.o.aE,.string g.o.host,.int .i64 g.o.port,.bool g.proxy,.string g.path,.int .i64 g.a.scheme,.string g.a.aK,.string g.a.bq,.string g.a.cy,.bool g.a.cA,.string g.a.eF,.bool g.a.cN,.slice ad g.a.dom.length cd]:=by
    rw[XE];unfold bI.cells;rw[q1,q2,q3,e1,e2,e3,e4,e5,e6,e7,xl]
   rw[xh]at HXB;have ajG:r.a.cells=[.int .i64 g.a.scheme,.string g.a.aK,.string g.a.bq,.string g.a.cy,.bool g.a.cA,.string g.a.eF,.bool g.a.cN,.slice ad g.a.dom.length cd]:=by unfold fI.cells;rw[e1,e2,e3,e4,e5,e6,e7,xl]
   have xF:=O (show∀U,Fr aS W U->aB 82 #[.agg #[.int .i64 g.a.scheme,.string g.a.aK,.string g.a.bq,.string g.a.cy,.bool g.a.cA,.string g.a.eF,.bool g.a.cN,.slice ad g.a.dom.length cd],.bool g.proxy,.string g.path] U (ra base U (nO g.a g.proxy g.path))from fun U hU=>by
    have h:=Ri base r.a g.a g.proxy g.path U (qa.mono (fun _ _ h=>h.di hU)) ab;rw[ajG]at h;exact h)
   have HPU:=O (show∀U lv,Fr aS W U->du base U lv (nO g.a g.proxy g.path)->aB 79 #[.pointer (some ⟨v1.b,0,none⟩),.agg #[.bool g.o.aE,.string g.o.host,.int .i64 g.o.port,.bool g.proxy,.string o.user,.string o.pass,.int .i64 g.a.scheme,.string g.a.aK,.string g.a.bq,.string g.a.cy,.bool g.a.cA,.string g.a.eF,.bool g.a.cN,.slice ad g.a.dom.length cd,.int .i64 0,lv]] U (Hz base U v1.b v1.gv v1.wv (uZ p.bU ⟨g.o,g.proxy,o.user,o.pass,g.a,0,nO g.a g.proxy g.path⟩) tk.1)from fun U lv hU hl=>by
    have h:=PM base U v1.b v1.gv v1.wv p.bU tk.1 ⟨g.o,g.proxy,o.user,o.pass,r.a,0,lv⟩ ⟨g.o,g.proxy,o.user,o.pass,g.a,0,nO g.a g.proxy g.path⟩ (I1.o.di hU).ot ⟨rfl,rfl,rfl,rfl,qa.mono (fun _ _ h=>h.di hU),rfl,hl⟩ ab;unfold aP.cells at h;rw[e1,e2,e3,e4,e5,e6,e7,xl]at h;exact h)
   have HC:=O (show∀U,Fr (dv v1.b v1.gv v1.wv) W U->(U.cell? ⟨B,off,none⟩=some (.pointer (some ⟨v1.b,0,none⟩))/\U.cell? ⟨n,0,none⟩=some (.bool g.o.aE)/\U.cell? ⟨n,1,none⟩=some (.string g.o.host)/\U.cell? ⟨n,2,none⟩=some (.int .i64 g.o.port)/\U.cell? ⟨n,3,none⟩=some (.bool g.proxy)/\U.cell? ⟨n,4,none⟩=some (.string g.path)/\U.cell? ⟨n,5,none⟩=some (.int .i64 g.a.scheme)/\U.cell? ⟨n,6,none⟩=some (.string g.a.aK)/\U.cell? ⟨n,7,none⟩=some (.string g.a.bq)/\U.cell? ⟨n,8,none⟩=some (.string g.a.cy)/\U.cell? ⟨n,9,none⟩=some (.bool g.a.cA)/\U.cell? ⟨n,10,none⟩=some (.string g.a.eF)/\U.cell? ⟨n,11,none⟩=some (.bool g.a.cN)/\U.cell? ⟨n,12,none⟩=some (.slice ad g.a.dom.length cd)/\U.cell? ⟨w.heap.size,16,none⟩=some (.string o.user)/\U.cell? ⟨w.heap.size,17,none⟩=some (.string o.pass))from fun U hU=>by
    have j1:=Ls.o.fr hU (fun hb=>I1.o.fg Ls.o.eJ ag (Or.inl hb));have j2:=hU.keep HXB.o (fun hb=>HNF.o (Or.inl hb));have j3:=hU.keep O1.o (fun hb=>I1.o.fg O1.o jb (Or.inl hb));obtain⟨a0,a1,a2,a3,a4,a5,a6,a7,a8,a9,jA,jB,a12,jx,jC,jd,jK,jL,jM,jU,a20,a21⟩:=eh j3 lu.o;refine⟨j1.cell0,?_,?_,?_,?_,?_,?_,?_,?_,?_,?_,?_,?_,?_,jK,jL⟩<;>simp[World.cell?,j2])
   rw[rG];clear Gq R_ M_ HTE rG hgm hgp hwp qa q1 q2 q3 e1 e2 e3 e4 e5 e6 e7 AM xl xh ajG XE;go_wp2_with fail
   go_region_held3 (fun U=>Fr (dv v1.b v1.gv v1.wv) W U/\U.cell? ⟨B,off,none⟩=some (.pointer (some ⟨v1.b,0,none⟩))/\U.cell? ⟨n,0,none⟩=some (.bool g.o.aE)/\U.cell? ⟨n,1,none⟩=some (.string g.o.host)/\U.cell? ⟨n,2,none⟩=some (.int .i64 g.o.port)/\U.cell? ⟨n,3,none⟩=some (.bool g.proxy)/\U.cell? ⟨n,4,none⟩=some (.string g.path)/\U.cell? ⟨n,5,none⟩=some (.int .i64 g.a.scheme)/\U.cell? ⟨n,6,none⟩=some (.string g.a.aK)/\U.cell? ⟨n,7,none⟩=some (.string g.a.bq)/\U.cell? ⟨n,8,none⟩=some (.string g.a.cy)/\U.cell? ⟨n,9,none⟩=some (.bool g.a.cA)/\U.cell? ⟨n,10,none⟩=some (.string g.a.eF)/\U.cell? ⟨n,11,none⟩=some (.bool g.a.cN)/\U.cell? ⟨n,12,none⟩=some (.slice ad g.a.dom.length cd)/\U.cell? ⟨w.heap.size,16,none⟩=some (.string o.user)/\U.cell? ⟨w.heap.size,17,none⟩=some (.string o.pass)) ((refine(fun hU=>⟨hU,HC.o _ hU⟩) ?_;first|exact az (ae _ _)|assumption))
    ((first
     |(go_at_call 82;refine(xF.o _ (az (ae _ _))).mono ?_;rintro e u5 ⟨lv,rfl,AI,lL⟩;obtain⟨pa,pc,MY⟩:=AI.rd.form;subst MY;have tS:Fr aS W u5:=(az (ae _ _)).trans lL;have ajH:Fr (dv v1.b v1.gv v1.wv) W u5:=tS.mono (fun _ _ h=>absurd h id))
     |(go_at_call 79;refine(HPU.o _ _ tS AI).mono ?_;rintro e u6 ⟨rfl,AJ⟩;have Fa:Fr (dv v1.b v1.gv v1.wv) W u6:=ajH.trans (by obtain⟨_,_,_,h,_⟩:=AJ;exact h))))
   have V0:=eR (I1.o.di tS) (Ls.o.di tS) (I1.o.fg Ls.o.eJ ag) AJ;have HP:=O (show dm base w2 B cs off v {p with waits:=tk.1,bU:=uZ p.bU ⟨g.o,g.proxy,o.user,o.pass,g.a,0,nO g.a g.proxy g.path⟩} u6 from gH F1.o FT1.o (dh tS V0));have r6:=O (eI (B:=B) I1.o (Fa.mono (fun k _ hk=>Or.inr (Or.inl hk))) R1.o dJ ab);clear V0 AJ Fa ajH tS AI lL HC xF HPU
   go_wp2_with (first|((with_reducible refine cV 46 ?_);refine aG rfl 46 (.tmp 4) (.tmp 45) rfl (w.heap.size+1) #[.int .i64 1,.string ⟨#[]⟩,.int .i64 0] rfl rfl _ bR r6.o (bf _ rfl) rfl ct ?_)|fail)
   refine aU (bu bC _ _ (w.heap.size+1) 46 #[.int .i64 1,.string ⟨#[]⟩,.int .i64 0] (0,0) _ rfl (aY _ (w.heap.size+1) _ _ _ _ r6.o) underlying46 rfl (bf _ rfl)) rfl ?_;unfold eG;rw[HR.o];exact⟨rfl,dy (HP.o.after fY.o) oY.o oT.o (bV _) r6.o eL ag _⟩
