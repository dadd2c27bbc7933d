/- Lemmas for the law's walk. -/
import Derived.Test.YtjndhcngnghpiaaGreatDoorPo16
set_option maxRecDepth 100000
set_option maxHeartbeats 16000000
set_option linter.unusedSimpArgs false
namespace Go.Proofs.YtjndhcngnghpiaaGreatDoor
open Go.Proofs.Tryz
open Go.RowKit
theorem np.one{base:Nat}{w:World}{b:Nat}{gv wv:Value}{gs:List (aU bE)}{u:List (bJ bE)×Option (bJ bE)}{e:Ending}{w':World}(h:np base w b gv wv gs u e w') :
  km base w b gv wv gs u.1 w'/\∃X:bS,e=.returned (.tuple #[.agg X,.bool u.2.isSome])/\X.size=13/\X.all (·.oneCell')=true/\∀x,u.2=some x->∃r:bJ Value,X=r.cells.toArray/\r.Reads (cZ base w') x:=by
 obtain⟨h1,h2⟩:=h;refine⟨h1,?_⟩;cases hu:u.2 with
 |none=>rw[hu]at h2;exact⟨vR,h2,rfl,OM,fun x hx=>by cases hx⟩
 |some g =>
  rw[hu]at h2;obtain⟨r,e1,e2,e3⟩:=h2;exact⟨r.cells.toArray,e1,rfl,bU e3,fun x hx=>by cases hx;exact⟨r,rfl,e2⟩⟩
theorem KQ{X:bS}(h:X.size=13):(prog.info? 129).map (·.size)=some X.size:=by rw[h];kernel_rfl
def AnJ(base:Nat)(w2:World)(B off:Nat)(cs:aX)(v:dm)(p:eB)(x:Option (bJ bE))(n:Nat)(X:bS)(W:World):Prop :=
 su base w2 B off cs v p n X 129 W/\∀g,x=some g->∃r:bJ Value,X=r.cells.toArray/\r.Reads (cZ base W) g
theorem Hk(base:Nat)(w:World)(B off:Nat)(cs:aX)(v:dm)(p:eB)(o:jB)(hs:List gU)(h:eO base w v p)(ha:gJ w B cs off v)(o8:base<=B)(hf:gL w o hs)(hk:mY p)(hwp:∀x∈p.waits,x.path.size<=5000) :
  aC 44 #[.pointer (some ⟨B,off,none⟩),.agg o.cells.toArray] w (eD base w B cs off v (kV p (o.dP hs))):=by
 have uo:B<w.heap.size:=bg ha.eG;have FP:¬v.jM B:=h.fa ha.eG ag;obtain⟨ah,ch,gq⟩:=hf.gO;obtain⟨w2,ez⟩:∃w2,w2=(w.alloc (.cells o.cells.toArray 33)).alloc (.cells bQ 46):=⟨_,rfl⟩;have dD:Fr aW w w2:=by rw[ez];exact((ae aW w).alloc _).alloc _
 have k1:w2.heap[w.heap.size]?=some (.cells o.cells.toArray 33 (0,0)):=by rw[ez];exact((ae aW _).alloc _).keep (aB _ _) id
 have k2:w2.heap[w.heap.size+1]?=some (.cells bQ 46 (0,0)):=by
  have h:=aB (w.alloc (.cells o.cells.toArray 33)) (.cells bQ 46);rw[bM]at h;rw[ez];exact h
 have wO:w2.heap.size=w.heap.size+2:=by rw[ez];simp
 have US:=O (show∀U,Fr aW w2 U->U.heap[w.heap.size]?=some (.cells o.cells.toArray 33 (0,0))from fun U hU=>hU.keep k1 id);have B_:=O FP;have HH:=O h;have HA:=O ha;have HF:=O hf;have lg:=O gq;have HK:=O hk;have fS:=O dD;have mE:=O k1;have qx:=O k2;have pU:=O (show base<=w.heap.size from ab);have wR:=O o8;have oM:=O uo;have QE:=O ez
 obtain⟨a0,a1,a2,a3,a4,a5,a6,a7,a8,a9,jr,js,a12,jq,jt,i_,jD,jE,jF,jN,a20,a21⟩:=ed k1 gq;rw[ez]at a0 a1 a2 a3 a4 a5 a6 a7 a8 a9 jr js a12 jq jt i_ jD jE jF jN a20 a21;rw[dV gq]at ez a0 a1 a2 a3 a4 a5 a6 a7 a8 a9 jr js a12 jq jt i_ jD jE jF jN a20 a21 ⊢;unfold bQ at ez a0 a1 a2 a3 a4 a5 a6 a7 a8 a9 jr js a12 jq jt i_ jD jE jF jN a20 a21;have oz:=O ez;clear ez gq dD k1 k2 h ha hf FP hk
 go_enter func44,ntmps44;have QR:=HK.o.rf;have HC:=O (show∀U,Fr (dh v.b v.gv v.wv) w2 U->(U.cell? ⟨B,off,none⟩=some (.pointer (some ⟨v.b,0,none⟩))/\U.cell? ⟨w.heap.size,5,none⟩=some (.bool o.aI.o.aG)/\U.cell? ⟨w.heap.size,6,none⟩=some (.string o.aI.o.host)/\U.cell? ⟨w.heap.size,7,none⟩=some (.int .i64 o.aI.o.port)/\U.cell? ⟨w.heap.size,14,none⟩=some (.bool o.proxy))from fun U hU=>by
  have j1:=(HA.o.dt fS.o).fr hU (fun hb=>B_.o (Or.inl hb));have j2:=hU.keep mE.o (fun hb=>(HH.o.dt fS.o).fa mE.o kZ (Or.inl hb));obtain⟨a0,a1,a2,a3,a4,a5,a6,a7,a8,a9,jr,js,a12,jq,jt,i_,jD,jE,jF,jN,a20,a21⟩:=ed j2 lg.o;exact⟨j1.cell0,a5,a6,a7,jt⟩)
 have Pv:=O (show∀U,Fr aW w2 U->aC 81 #[.pointer (some ⟨v.b,0,none⟩),.agg #[.bool o.aI.o.aG,.string o.aI.o.host,.int .i64 o.aI.o.port],.bool o.proxy] U (np base U v.b v.gv v.wv p.bW (lV o.aI.o o.proxy p.waits))from fun U hU=>J3 base U v.b v.gv v.wv p.bW p.waits o.aI.o o.proxy ((HH.o.dt fS.o).dt hU).oW ab);have rP:=oz.o;go_wp2_with fail
 rw[<-rP];clear a0 a1 a2 a3 a4 a5 a6 a7 a8 a9 jr js a12 jq jt i_ jD jE jF jN a20 a21 rP wO;have aif:=O (show base<=w2.heap.size from aE pU.o fS.o.size);have aih:=O (show B<w2.heap.size from cK oM.o fS.o.size);obtain⟨tk,htk⟩:∃tk,tk=lV o.aI.o o.proxy p.waits:=⟨_,rfl⟩;rw[<-htk]at Pv;have HTE:=O htk;clear htk;obtain⟨ok,Lt⟩:∃ok,ok=tk.2.isSome:=⟨_,rfl⟩;have Mh:=O Lt;clear Lt
 apply UA (P:=AnJ base w2 B off cs v {p with waits:=tk.1} tk.2)
 ·intro hJ;have HJ:=O hJ;clear hJ;refine wp_region_held_drew (S:=(fun U=>U.cell? ⟨B,off,none⟩=some (.pointer (some ⟨v.b,0,none⟩))/\U.cell? ⟨w.heap.size,5,none⟩=some (.bool o.aI.o.aG)/\U.cell? ⟨w.heap.size,6,none⟩=some (.string o.aI.o.host)/\U.cell? ⟨w.heap.size,7,none⟩=some (.int .i64 o.aI.o.port)/\U.cell? ⟨w.heap.size,14,none⟩=some (.bool o.proxy))) af (HC.o _ (az (ae _ _))) ?_;intro yl
  refine aO 0 8 rfl ?_;refine aO 1 9 rfl ?_;refine aO 2 10 rfl ?_;refine aO 3 11 rfl ?_;refine aO 4 12 rfl ?_;refine aO 5 13 rfl ?_;refine aO 6 14 rfl ?_;refine aO 7 15 rfl ?_;refine aO 8 16 rfl ?_;refine aO 9 17 rfl ?_;refine DI 10 14 rfl rfl (fun K hK=>?_) fun K hK=>?_
  ·go_simp;refine(Pv.o _ (az (ae _ _))).mono ?_;rintro e u3 Ku;obtain⟨sN,X,rfl,FQ,Kv,Dx⟩:=np.one Ku;rw[<-Mh.o];have Na:=O sN;have HX:=O (And.intro FQ (And.intro Kv Dx));have vW:Fr (dh v.b v.gv v.wv) w2 u3:=(az (ae _ _)).trans (by obtain⟨_,_,_,h,_⟩:=sN;exact h);have Az:=O vW;clear Ku sN FQ Kv Dx vW;refine hK.out _ _ (HC.o _ Az.o) ?_;intro wU;clear hK yl K
   try simp only[Act.put,sA,sB,sC]
   refine aO 11 7 rfl ?_;refine aO 12 19 rfl ?_;refine aO 13 20 rfl ?_;refine eK 14 rfl fun K hK=>?_;go_simp;obtain⟨n,hne⟩:∃n,n=u3.heap.size:=⟨_,rfl⟩;obtain⟨w4,qh⟩:∃w4,w4=u3.alloc (.cells vR 129):=⟨_,rfl⟩;have UT:w4.heap[n]?=some (.cells vR 129 (0,0)):=by rw[qh,hne];exact aB _ _
   have kz:Fr (dh v.b v.gv v.wv) w2 w4:=by rw[qh];exact Az.o.alloc _
   have YO:=O UT;have jH:=O kz;have MX:=O qh;have BP:=O hne;rw[<-qh, <-hne];clear qh hne UT kz;refine hK.out _ _ (HC.o _ jH.o) ?_;intro Bj;clear hK wU K
   try simp only[Act.put,sA,sB,sC]
   refine eK 15 rfl fun K hK=>?_;refine jC rfl 129 (.tmp 5) (.tmp 19) rfl n X rfl rfl 129 vR YO.o (KQ HX.o.1) HX.o.1.symm HX.o.2.1 ?_;obtain⟨W,hW⟩:∃W,W=w4.setRow n X:=⟨_,rfl⟩;have Bk:Fr (dh v.b v.gv v.wv) w2 W:=by rw[hW];exact iZ jH.o (by rw[BP.o];exact Az.o.size) _
   have hP:=su.after (z:=vR) (cW (az (ae aW w2)) (eP ((HH.o.dt fS.o).dt (az (ae aW w2))) ((HA.o.dt fS.o).dt (az (ae aW w2))) B_.o Na.o)) aif.o aih.o (t:=129) ag X;rw[<-MX.o, <-BP.o, <-hW]at hP;rw[<-hW];refine hK.out _ _ (HC.o _ Bk) ?_;intro EA;clear hK Bj K
   try simp only[Act.put,sA,sB,sC]
   refine aO 16 6 rfl ?_;clear EA;refine wpAnyH_done af ?_ _;exact HJ.o n X W ⟨hP.1,fun g hg=>by
    obtain⟨r,e1,e2⟩:=HX.o.2.2 g hg;exact⟨r,e1,e2.mono (fun v l h=>hP.2 v l h)⟩⟩
  ·go_simp;obtain⟨n,hne⟩:∃n,n=w2.heap.size:=⟨_,rfl⟩;obtain⟨w4,qh⟩:∃w4,w4=(w2.alloc (.cells vR 129)).drew:=⟨_,rfl⟩;have UT:w4.heap[n]?=some (.cells vR 129 (0,0)):=by rw[qh,hne];exact aB w2 _
   have kz:Fr aW w2 w4:=by rw[qh];exact((ae _ _).alloc _).drew
   have YO:=O UT;have jH:=O kz;have BP:=O (show w2.heap.size<=n from ab);rw[<-qh, <-hne];clear qh hne UT kz;refine hK.out _ _ (HC.o _ (jH.o.mono (fun _ _ h=>absurd h id))) ?_;intro wU;clear hK yl K
   try simp only[Act.put,sA,sB,sC]
   refine eK 10 rfl fun K hK=>?_;go_simp;refine(Pv.o _ jH.o).mono ?_;rintro e u3 Ku;obtain⟨sN,X,rfl,FQ,Kv,Dx⟩:=np.one Ku;rw[<-Mh.o];have Na:=O sN;have HX:=O (And.intro FQ (And.intro Kv Dx));have vW:Fr (dh v.b v.gv v.wv) w2 u3:=(jH.o.mono (fun _ _ h=>absurd h id)).trans (by obtain⟨_,_,_,h,_⟩:=sN;exact h)
   have SK:u3.heap[n]?=some (.cells vR 129 (0,0)):=(show Fr (dh v.b v.gv v.wv) w4 u3 by obtain⟨_,_,_,h,_⟩:=sN;exact h).keep YO.o (fun hb=>by have:=(HH.o.dt fS.o).ja (Or.inl hb);have:=BP.o;omega);have Az:=O vW;have HZ3:=O SK;clear Ku sN FQ Kv Dx vW SK;refine hK.out _ _ (HC.o _ Az.o) ?_;intro Bj;clear hK wU K
   try simp only[Act.put,sA,sB,sC]
   refine aO 11 7 rfl ?_;refine aO 12 19 rfl ?_;refine aO 13 20 rfl ?_;refine eK 15 rfl fun K hK=>?_;refine jC rfl 129 (.tmp 5) (.tmp 19) rfl n X rfl rfl 129 vR HZ3.o (KQ HX.o.1) HX.o.1.symm HX.o.2.1 ?_;obtain⟨W,hW⟩:∃W,W=u3.setRow n X:=⟨_,rfl⟩;have Bk:Fr (dh v.b v.gv v.wv) w2 W:=by rw[hW];exact iZ Az.o BP.o _
   have hP:=su.before (HH.o.dt fS.o) jH.o BP.o YO.o (eP ((HH.o.dt fS.o).dt jH.o) ((HA.o.dt fS.o).dt jH.o) B_.o Na.o) aif.o aih.o ag X;rw[<-hW]at hP;rw[<-hW];refine hK.out _ _ (HC.o _ Bk) ?_;intro EA;clear hK Bj K
   try simp only[Act.put,sA,sB,sC]
   refine aO 16 6 rfl ?_;clear EA;refine wpAnyH_done af ?_ _;exact HJ.o n X W ⟨hP.1,fun g hg=>by
    obtain⟨r,e1,e2⟩:=HX.o.2.2 g hg;exact⟨r,e1,e2.mono (fun v l h=>hP.2 v l h)⟩⟩
 ·intro n X W hj;obtain⟨⟨v1,i1,f1,Bi,UU,hX,UW,UB⟩,Kt⟩:=hj;have aa1:=ia (HA.o.dt fS.o) UU;have o1:=eF (HH.o.dt fS.o) f1 mE.o kZ ab;have r1:=eF (HH.o.dt fS.o) f1 qx.o dR ab;have I1:=O i1;have F1:=O f1;have FT1:=O Bi;have Kw:=O aa1;have O1:=O o1;have R1:=O r1;have HXB:=O hX;have HNF:=O UW;have HNA:=O UB;clear i1 f1 Bi aa1 o1 r1 UU hX UW UB Pv HC;cases Q4:tk.2 with
  |none =>
   have rA:ok=false:=by rw[Mh.o,Q4];rfl
   have HR:=O (show kV p (o.dP hs)=({p with waits:=tk.1},rep 2)by
    unfold kV;rw[show lV (o.dP hs).o (o.dP hs).proxy p.waits=(tk.1,none)from by rw[<-Q4];exact HTE.o.symm])
   have HP:=O (show cX base w2 B cs off v {p with waits:=tk.1} W from⟨v1,I1.o,F1.o,FT1.o,Kw.o.eG⟩);rw[rA];clear Kt Q4 Mh HTE rA;go_wp2_with (first|((with_reducible refine cP 46 ?_);refine aF rfl 46 (.tmp 4) (.tmp 23) rfl (w.heap.size+1) #[.int .i64 2,.string ⟨#[]⟩,.int .i64 0] rfl rfl _ bQ R1.o (bd _ rfl) rfl bX ?_)|fail)
   refine aR (bh bw _ _ (w.heap.size+1) 46 #[.int .i64 2,.string ⟨#[]⟩,.int .i64 0] (0,0) _ rfl (aY _ (w.heap.size+1) _ _ _ _ R1.o) underlying46 rfl (bd _ rfl)) rfl ?_;unfold eD;rw[HR.o];exact⟨rfl,dw (HP.o.after fS.o) pU.o oM.o (bT _) R1.o eJ ag _⟩
  |some g =>
   have rA:ok=true:=by rw[Mh.o,Q4];rfl
   obtain⟨r,Wm,hr⟩:=Kt g Q4;have hgm:g∈p.waits:=Ar (o:=o.aI.o) (proxy:=o.proxy) (by rw[<-HTE.o];exact Q4);have hgp:=hwp g hgm;have HR:=O (show kV p (o.dP hs)=({p with waits:=tk.1,bW:=uW p.bW ⟨g.o,g.proxy,o.user,o.pass,g.a,0,nN g.a g.proxy g.path⟩},rep 1)by
    unfold kV;rw[show lV (o.dP hs).o (o.dP hs).proxy p.waits=(tk.1,some g)from by rw[<-Q4];exact HTE.o.symm];rfl)
   obtain⟨q1,q2,q3,q4⟩:=hr;have qa:=q4;obtain⟨e1,e2,e3,e4,e5,e6,e7,Am⟩:=q4;obtain⟨ad,cd,B6⟩:=Am.rd.form;have xc:X= #[.bool g.o.aG,.string g.o.host,.int .i64 g.o.port,.bool g.proxy,.string g.path,.int .i64 g.a.scheme,.string g.a.aP,.string g.a.bz,.string g.a.cC,.bool g.a.cD,.string g.a.eY,.bool g.a.du,.slice ad g.a.dom.length cd]:=by
    rw[Wm];unfold bJ.cells;rw[q1,q2,q3,e1,e2,e3,e4,e5,e6,e7,B6]
   rw[xc]at HXB;have aij:r.a.cells=[.int .i64 g.a.scheme,.string g.a.aP,.string g.a.bz,.string g.a.cC,.bool g.a.cD,.string g.a.eY,.bool g.a.du,.slice ad g.a.dom.length cd]:=by unfold fY.cells;rw[e1,e2,e3,e4,e5,e6,e7,B6]
   have xy:=O (show∀U,Fr aW W U->aC 82 #[.agg #[.int .i64 g.a.scheme,.string g.a.aP,.string g.a.bz,.string g.a.cC,.bool g.a.cD,.string g.a.eY,.bool g.a.du,.slice ad g.a.dom.length cd],.bool g.proxy,.string g.path] U (qU base U (nN g.a g.proxy g.path))from fun U hU=>by
    have h:=Qj base r.a g.a g.proxy g.path U (qa.mono (fun _ _ h=>h.dt hU)) ab;rw[aij]at h;exact h)
   have HPU:=O (show∀U lv,Fr aW W U->cZ base U lv (nN g.a g.proxy g.path)->aC 79 #[.pointer (some ⟨v1.b,0,none⟩),.agg #[.bool g.o.aG,.string g.o.host,.int .i64 g.o.port,.bool g.proxy,.string o.user,.string o.pass,.int .i64 g.a.scheme,.string g.a.aP,.string g.a.bz,.string g.a.cC,.bool g.a.cD,.string g.a.eY,.bool g.a.du,.slice ad g.a.dom.length cd,.int .i64 0,lv]] U (GX base U v1.b v1.gv v1.wv (uW p.bW ⟨g.o,g.proxy,o.user,o.pass,g.a,0,nN g.a g.proxy g.path⟩) tk.1)from fun U lv hU hl=>by
    have h:=OK base U v1.b v1.gv v1.wv p.bW tk.1 ⟨g.o,g.proxy,o.user,o.pass,r.a,0,lv⟩ ⟨g.o,g.proxy,o.user,o.pass,g.a,0,nN g.a g.proxy g.path⟩ (I1.o.dt hU).oW ⟨rfl,rfl,rfl,rfl,qa.mono (fun _ _ h=>h.dt hU),rfl,hl⟩ ab;unfold aU.cells at h;rw[e1,e2,e3,e4,e5,e6,e7,B6]at h;exact h)
   have HC:=O (show∀U,Fr (dh v1.b v1.gv v1.wv) W U->(U.cell? ⟨B,off,none⟩=some (.pointer (some ⟨v1.b,0,none⟩))/\U.cell? ⟨n,0,none⟩=some (.bool g.o.aG)/\U.cell? ⟨n,1,none⟩=some (.string g.o.host)/\U.cell? ⟨n,2,none⟩=some (.int .i64 g.o.port)/\U.cell? ⟨n,3,none⟩=some (.bool g.proxy)/\U.cell? ⟨n,4,none⟩=some (.string g.path)/\U.cell? ⟨n,5,none⟩=some (.int .i64 g.a.scheme)/\U.cell? ⟨n,6,none⟩=some (.string g.a.aP)/\U.cell? ⟨n,7,none⟩=some (.string g.a.bz)/\U.cell? ⟨n,8,none⟩=some (.string g.a.cC)/\U.cell? ⟨n,9,none⟩=some (.bool g.a.cD)/\U.cell? ⟨n,10,none⟩=some (.string g.a.eY)/\U.cell? ⟨n,11,none⟩=some (.bool g.a.du)/\U.cell? ⟨n,12,none⟩=some (.slice ad g.a.dom.length cd)/\U.cell? ⟨w.heap.size,16,none⟩=some (.string o.user)/\U.cell? ⟨w.heap.size,17,none⟩=some (.string o.pass))from fun U hU=>by
    have j1:=Kw.o.fr hU (fun hb=>I1.o.fa Kw.o.eG ag (Or.inl hb));have j2:=hU.keep HXB.o (fun hb=>HNF.o (Or.inl hb));have j3:=hU.keep O1.o (fun hb=>I1.o.fa O1.o kZ (Or.inl hb));obtain⟨a0,a1,a2,a3,a4,a5,a6,a7,a8,a9,jr,js,a12,jq,jt,i_,jD,jE,jF,jN,a20,a21⟩:=ed j3 lg.o;refine⟨j1.cell0,?_,?_,?_,?_,?_,?_,?_,?_,?_,?_,?_,?_,?_,jD,jE⟩<;>simp[World.cell?,j2])
   rw[rA];clear Kt Q4 Mh HTE rA hgm hgp hwp qa q1 q2 q3 e1 e2 e3 e4 e5 e6 e7 Am B6 xc aij Wm;go_wp2_with fail
   go_region_held3 (fun U=>Fr (dh v1.b v1.gv v1.wv) W U/\U.cell? ⟨B,off,none⟩=some (.pointer (some ⟨v1.b,0,none⟩))/\U.cell? ⟨n,0,none⟩=some (.bool g.o.aG)/\U.cell? ⟨n,1,none⟩=some (.string g.o.host)/\U.cell? ⟨n,2,none⟩=some (.int .i64 g.o.port)/\U.cell? ⟨n,3,none⟩=some (.bool g.proxy)/\U.cell? ⟨n,4,none⟩=some (.string g.path)/\U.cell? ⟨n,5,none⟩=some (.int .i64 g.a.scheme)/\U.cell? ⟨n,6,none⟩=some (.string g.a.aP)/\U.cell? ⟨n,7,none⟩=some (.string g.a.bz)/\U.cell? ⟨n,8,none⟩=some (.string g.a.cC)/\U.cell? ⟨n,9,none⟩=some (.bool g.a.cD)/\U.cell? ⟨n,10,none⟩=some (.string g.a.eY)/\U.cell? ⟨n,11,none⟩=some (.bool g.a.du)/\U.cell? ⟨n,12,none⟩=some (.slice ad g.a.dom.length cd)/\U.cell? ⟨w.heap.size,16,none⟩=some (.string o.user)/\U.cell? ⟨w.heap.size,17,none⟩=some (.string o.pass)) ((refine(fun hU=>⟨hU,HC.o _ hU⟩) ?_;first|exact az (ae _ _)|assumption))
    ((first
     |(go_at_call 82;refine(xy.o _ (az (ae _ _))).mono ?_;rintro e u5 ⟨lv,rfl,Aj,lC⟩;obtain⟨pa,pc,L5⟩:=Aj.rd.form;subst L5;have tJ:Fr aW W u5:=(az (ae _ _)).trans lC;have aik:Fr (dh v1.b v1.gv v1.wv) W u5:=tJ.mono (fun _ _ h=>absurd h id))
     |(go_at_call 79;refine(HPU.o _ _ tJ Aj).mono ?_;rintro e u6 ⟨rfl,BD⟩;have KP:Fr (dh v1.b v1.gv v1.wv) W u6:=aik.trans (by obtain⟨_,_,_,h,_⟩:=BD;exact h))))
   have UZ:=eP (I1.o.dt tJ) (Kw.o.dt tJ) (I1.o.fa Kw.o.eG ag) BD;have HP:=O (show cX base w2 B cs off v {p with waits:=tk.1,bW:=uW p.bW ⟨g.o,g.proxy,o.user,o.pass,g.a,0,nN g.a g.proxy g.path⟩} u6 from gz F1.o FT1.o (cW tJ UZ));have r6:=O (eF (B:=B) I1.o (KP.mono (fun k _ hk=>Or.inr (Or.inl hk))) R1.o dR ab);clear UZ BD KP aik tJ Aj lC HC xy HPU
   go_wp2_with (first|((with_reducible refine cP 46 ?_);refine aF rfl 46 (.tmp 4) (.tmp 45) rfl (w.heap.size+1) #[.int .i64 1,.string ⟨#[]⟩,.int .i64 0] rfl rfl _ bQ r6.o (bd _ rfl) rfl bX ?_)|fail)
   refine aR (bh bw _ _ (w.heap.size+1) 46 #[.int .i64 1,.string ⟨#[]⟩,.int .i64 0] (0,0) _ rfl (aY _ (w.heap.size+1) _ _ _ _ r6.o) underlying46 rfl (bd _ rfl)) rfl ?_;unfold eD;rw[HR.o];exact⟨rfl,dw (HP.o.after fS.o) pU.o oM.o (bT _) r6.o eJ ag _⟩
