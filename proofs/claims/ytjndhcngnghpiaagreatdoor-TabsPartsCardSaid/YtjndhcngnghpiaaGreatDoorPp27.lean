/- Lemmas for the law's walk. -/
import Derived.Test.YtjndhcngnghpiaaGreatDoorPp16
set_option maxRecDepth 100000
set_option maxHeartbeats 16000000
set_option linter.unusedSimpArgs false
namespace Go.Proofs.YtjndhcngnghpiaaGreatDoor
open Go.Proofs.Tryz
open Go.RowKit
theorem ni.one{base:Nat}{w:World}{b:Nat}{gv wv:Value}{gs:List (aU bG)}{u:List (bL bG)×Option (bL bG)}{e:Ending}{w':World}(h:ni base w b gv wv gs u e w') :
  kp base w b gv wv gs u.1 w'/\∃X:bW,e=.returned (.tuple #[.agg X,.bool u.2.isSome])/\X.size=13/\X.all (·.oneCell')=true/\∀x,u.2=some x->∃r:bL Value,X=r.cells.toArray/\r.Reads (df base w') x:=by
 obtain⟨h1,h2⟩:=h;refine⟨h1,?_⟩;cases hu:u.2 with
 |none=>rw[hu]at h2;exact⟨vL,h2,rfl,N8,fun x hx=>by cases hx⟩
 |some g =>
  rw[hu]at h2;obtain⟨r,e1,e2,e3⟩:=h2;exact⟨r.cells.toArray,e1,rfl,cE e3,fun x hx=>by cases hx;exact⟨r,rfl,e2⟩⟩
theorem Kq{X:bW}(h:X.size=13):(prog.info? 129).map (·.size)=some X.size:=by rw[h];kernel_rfl
def AnJ(base:Nat)(w2:World)(B off:Nat)(cs:a_)(v:dn)(p:eD)(x:Option (bL bG))(n:Nat)(X:bW)(W:World):Prop :=
 sq base w2 B off cs v p n X 129 W/\∀g,x=some g->∃r:bL Value,X=r.cells.toArray/\r.Reads (df base W) g
theorem GQ(base:Nat)(w:World)(B off:Nat)(cs:a_)(v:dn)(p:eD)(o:jI)(hs:List gT)(h:eQ base w v p)(ha:gJ w B cs off v)(oX:base<=B)(hf:gM w o hs)(hk:mT p)(hwp:∀x∈p.waits,x.path.size<=5000) :
  aE 44 #[.pointer (some ⟨B,off,none⟩),.agg o.cells.toArray] w (eG base w B cs off v (kT p (o.dX hs))):=by
 have uo:B<w.heap.size:=bg ha.eK;have Fq:¬v.jS B:=h.fa ha.eK ag;obtain⟨ah,ch,gu⟩:=hf.h_;obtain⟨w2,eC⟩:∃w2,w2=(w.alloc (.cells o.cells.toArray 33)).alloc (.cells bP 46):=⟨_,rfl⟩;have dF:Fr aX w w2:=by rw[eC];exact((ae aX w).alloc _).alloc _
 have k1:w2.heap[w.heap.size]?=some (.cells o.cells.toArray 33 (0,0)):=by rw[eC];exact((ae aX _).alloc _).keep (aC _ _) id
 have k2:w2.heap[w.heap.size+1]?=some (.cells bP 46 (0,0)):=by
  have h:=aC (w.alloc (.cells o.cells.toArray 33)) (.cells bP 46);rw[bK]at h;rw[eC];exact h
 have wG:w2.heap.size=w.heap.size+2:=by rw[eC];simp
 have Up:=O (show∀U,Fr aX w2 U->U.heap[w.heap.size]?=some (.cells o.cells.toArray 33 (0,0))from fun U hU=>hU.keep k1 id);have BK:=O Fq;have HH:=O h;have HA:=O ha;have HF:=O hf;have lf:=O gu;have HK:=O hk;have fR:=O dF;have mD:=O k1;have qt:=O k2;have pS:=O (show base<=w.heap.size from ab);have wJ:=O oX;have oH:=O uo;have P8:=O eC
 obtain⟨a0,a1,a2,a3,a4,a5,a6,a7,a8,a9,jy,jz,a12,jw,jA,jb,jJ,jK,jL,jT,a20,a21⟩:=eo k1 gu;rw[eC]at a0 a1 a2 a3 a4 a5 a6 a7 a8 a9 jy jz a12 jw jA jb jJ jK jL jT a20 a21;rw[dN gu]at eC a0 a1 a2 a3 a4 a5 a6 a7 a8 a9 jy jz a12 jw jA jb jJ jK jL jT a20 a21 ⊢;unfold bP at eC a0 a1 a2 a3 a4 a5 a6 a7 a8 a9 jy jz a12 jw jA jb jJ jK jL jT a20 a21;have ow:=O eC;clear eC gu dF k1 k2 h ha hf Fq hk
 go_enter func44,ntmps44;have Qj:=HK.o.re;have HC:=O (show∀U,Fr (dk v.b v.gv v.wv) w2 U->(U.cell? ⟨B,off,none⟩=some (.pointer (some ⟨v.b,0,none⟩))/\U.cell? ⟨w.heap.size,5,none⟩=some (.bool o.aF.o.aD)/\U.cell? ⟨w.heap.size,6,none⟩=some (.string o.aF.o.host)/\U.cell? ⟨w.heap.size,7,none⟩=some (.int .i64 o.aF.o.port)/\U.cell? ⟨w.heap.size,14,none⟩=some (.bool o.proxy))from fun U hU=>by
  have j1:=(HA.o.dx fR.o).fr hU (fun hb=>BK.o (Or.inl hb));have j2:=hU.keep mD.o (fun hb=>(HH.o.dx fR.o).fa mD.o kX (Or.inl hb));obtain⟨a0,a1,a2,a3,a4,a5,a6,a7,a8,a9,jy,jz,a12,jw,jA,jb,jJ,jK,jL,jT,a20,a21⟩:=eo j2 lf.o;exact⟨j1.cell0,a5,a6,a7,jA⟩)
 have OP:=O (show∀U,Fr aX w2 U->aE 81 #[.pointer (some ⟨v.b,0,none⟩),.agg #[.bool o.aF.o.aD,.string o.aF.o.host,.int .i64 o.aF.o.port],.bool o.proxy] U (ni base U v.b v.gv v.wv p.bZ (lR o.aF.o o.proxy p.waits))from fun U hU=>JE base U v.b v.gv v.wv p.bZ p.waits o.aF.o o.proxy ((HH.o.dx fR.o).dx hU).oT ab);have rN:=ow.o;go_wp2_with fail
 rw[<-rN];clear a0 a1 a2 a3 a4 a5 a6 a7 a8 a9 jy jz a12 jw jA jb jJ jK jL jT a20 a21 rN wG;have ahS:=O (show base<=w2.heap.size from aH pS.o fR.o.size);have ahT:=O (show B<w2.heap.size from cN oH.o fR.o.size);obtain⟨tk,htk⟩:∃tk,tk=lR o.aF.o o.proxy p.waits:=⟨_,rfl⟩;rw[<-htk]at OP;have HTE:=O htk;clear htk;obtain⟨ok,KW⟩:∃ok,ok=tk.2.isSome:=⟨_,rfl⟩;have LG:=O KW;clear KW
 apply T_ (P:=AnJ base w2 B off cs v {p with waits:=tk.1} tk.2)
 ·intro hJ;have HJ:=O hJ;clear hJ;refine wp_region_held_drew (S:=(fun U=>U.cell? ⟨B,off,none⟩=some (.pointer (some ⟨v.b,0,none⟩))/\U.cell? ⟨w.heap.size,5,none⟩=some (.bool o.aF.o.aD)/\U.cell? ⟨w.heap.size,6,none⟩=some (.string o.aF.o.host)/\U.cell? ⟨w.heap.size,7,none⟩=some (.int .i64 o.aF.o.port)/\U.cell? ⟨w.heap.size,14,none⟩=some (.bool o.proxy))) af (HC.o _ (aA (ae _ _))) ?_;intro xg
  refine aP 0 8 rfl ?_;refine aP 1 9 rfl ?_;refine aP 2 10 rfl ?_;refine aP 3 11 rfl ?_;refine aP 4 12 rfl ?_;refine aP 5 13 rfl ?_;refine aP 6 14 rfl ?_;refine aP 7 15 rfl ?_;refine aP 8 16 rfl ?_;refine aP 9 17 rfl ?_;refine Dl 10 14 rfl rfl (fun K hK=>?_) fun K hK=>?_
  ·go_simp;refine(OP.o _ (aA (ae _ _))).mono ?_;rintro e u3 J7;obtain⟨sJ,X,rfl,Fs,J8,Da⟩:=ni.one J7;rw[<-LG.o];have Rs:=O sJ;have HX:=O (And.intro Fs (And.intro J8 Da));have vQ:Fr (dk v.b v.gv v.wv) w2 u3:=(aA (ae _ _)).trans (by obtain⟨_,_,_,h,_⟩:=sJ;exact h);have Ah:=O vQ;clear J7 sJ Fs J8 Da vQ;refine hK.out _ _ (HC.o _ Ah.o) ?_;intro wM;clear hK xg K
   try simp only[Act.put,sA,sB,sC]
   refine aP 11 7 rfl ?_;refine aP 12 19 rfl ?_;refine aP 13 20 rfl ?_;refine eE 14 rfl fun K hK=>?_;go_simp;obtain⟨n,hne⟩:∃n,n=u3.heap.size:=⟨_,rfl⟩;obtain⟨w4,qf⟩:∃w4,w4=u3.alloc (.cells vL 129):=⟨_,rfl⟩;have Uq:w4.heap[n]?=some (.cells vL 129 (0,0)):=by rw[qf,hne];exact aC _ _
   have kH:Fr (dk v.b v.gv v.wv) w2 w4:=by rw[qf];exact Ah.o.alloc _
   have Yq:=O Uq;have jN:=O kH;have Ms:=O qf;have Br:=O hne;rw[<-qf, <-hne];clear qf hne Uq kH;refine hK.out _ _ (HC.o _ jN.o) ?_;intro yb;clear hK wM K
   try simp only[Act.put,sA,sB,sC]
   refine eE 15 rfl fun K hK=>?_;refine gP rfl 129 (.tmp 5) (.tmp 19) rfl n X rfl rfl 129 vL Yq.o (Kq HX.o.1) HX.o.1.symm HX.o.2.1 ?_;obtain⟨W,hW⟩:∃W,W=w4.setRow n X:=⟨_,rfl⟩;have AV:Fr (dk v.b v.gv v.wv) w2 W:=by rw[hW];exact jG jN.o (by rw[Br.o];exact Ah.o.size) _
   have hP:=sq.after (z:=vL) (cV (aA (ae aX w2)) (eR ((HH.o.dx fR.o).dx (aA (ae aX w2))) ((HA.o.dx fR.o).dx (aA (ae aX w2))) BK.o Rs.o)) ahS.o ahT.o (t:=129) ag X;rw[<-Ms.o, <-Br.o, <-hW]at hP;rw[<-hW];refine hK.out _ _ (HC.o _ AV) ?_;intro Ea;clear hK yb K
   try simp only[Act.put,sA,sB,sC]
   refine aP 16 6 rfl ?_;clear Ea;refine wpAnyH_done af ?_ _;exact HJ.o n X W ⟨hP.1,fun g hg=>by
    obtain⟨r,e1,e2⟩:=HX.o.2.2 g hg;exact⟨r,e1,e2.mono (fun v l h=>hP.2 v l h)⟩⟩
  ·go_simp;obtain⟨n,hne⟩:∃n,n=w2.heap.size:=⟨_,rfl⟩;obtain⟨w4,qf⟩:∃w4,w4=(w2.alloc (.cells vL 129)).drew:=⟨_,rfl⟩;have Uq:w4.heap[n]?=some (.cells vL 129 (0,0)):=by rw[qf,hne];exact aC w2 _
   have kH:Fr aX w2 w4:=by rw[qf];exact((ae _ _).alloc _).drew
   have Yq:=O Uq;have jN:=O kH;have Br:=O (show w2.heap.size<=n from ab);rw[<-qf, <-hne];clear qf hne Uq kH;refine hK.out _ _ (HC.o _ (jN.o.mono (fun _ _ h=>absurd h id))) ?_;intro wM;clear hK xg K
   try simp only[Act.put,sA,sB,sC]
   refine eE 10 rfl fun K hK=>?_;go_simp;refine(OP.o _ jN.o).mono ?_;rintro e u3 J7;obtain⟨sJ,X,rfl,Fs,J8,Da⟩:=ni.one J7;rw[<-LG.o];have Rs:=O sJ;have HX:=O (And.intro Fs (And.intro J8 Da));have vQ:Fr (dk v.b v.gv v.wv) w2 u3:=(jN.o.mono (fun _ _ h=>absurd h id)).trans (by obtain⟨_,_,_,h,_⟩:=sJ;exact h)
   have Sf:u3.heap[n]?=some (.cells vL 129 (0,0)):=(show Fr (dk v.b v.gv v.wv) w4 u3 by obtain⟨_,_,_,h,_⟩:=sJ;exact h).keep Yq.o (fun hb=>by have:=(HH.o.dx fR.o).je (Or.inl hb);have:=Br.o;omega);have Ah:=O vQ;have HZ3:=O Sf;clear J7 sJ Fs J8 Da vQ Sf;refine hK.out _ _ (HC.o _ Ah.o) ?_;intro yb;clear hK wM K
   try simp only[Act.put,sA,sB,sC]
   refine aP 11 7 rfl ?_;refine aP 12 19 rfl ?_;refine aP 13 20 rfl ?_;refine eE 15 rfl fun K hK=>?_;refine gP rfl 129 (.tmp 5) (.tmp 19) rfl n X rfl rfl 129 vL HZ3.o (Kq HX.o.1) HX.o.1.symm HX.o.2.1 ?_;obtain⟨W,hW⟩:∃W,W=u3.setRow n X:=⟨_,rfl⟩;have AV:Fr (dk v.b v.gv v.wv) w2 W:=by rw[hW];exact jG Ah.o Br.o _
   have hP:=sq.before (HH.o.dx fR.o) jN.o Br.o Yq.o (eR ((HH.o.dx fR.o).dx jN.o) ((HA.o.dx fR.o).dx jN.o) BK.o Rs.o) ahS.o ahT.o ag X;rw[<-hW]at hP;rw[<-hW];refine hK.out _ _ (HC.o _ AV) ?_;intro Ea;clear hK yb K
   try simp only[Act.put,sA,sB,sC]
   refine aP 16 6 rfl ?_;clear Ea;refine wpAnyH_done af ?_ _;exact HJ.o n X W ⟨hP.1,fun g hg=>by
    obtain⟨r,e1,e2⟩:=HX.o.2.2 g hg;exact⟨r,e1,e2.mono (fun v l h=>hP.2 v l h)⟩⟩
 ·intro n X W hj;obtain⟨⟨v1,i1,f1,AU,Ur,hX,Us,T'⟩,J6⟩:=hj;have aa1:=ia (HA.o.dx fR.o) Ur;have o1:=eI (HH.o.dx fR.o) f1 mD.o kX ab;have r1:=eI (HH.o.dx fR.o) f1 qt.o dS ab;have I1:=O i1;have F1:=O f1;have Z':=O AU;have J9:=O aa1;have O1:=O o1;have R1:=O r1;have HXB:=O hX;have HNF:=O Us;have HNA:=O T';clear i1 f1 AU aa1 o1 r1 Ur hX Us T' OP HC;cases Qx:tk.2 with
  |none =>
   have ru:ok=false:=by rw[LG.o,Qx];rfl
   have HR:=O (show kT p (o.dX hs)=({p with waits:=tk.1},rep 2)by
    unfold kT;rw[show lR (o.dX hs).o (o.dX hs).proxy p.waits=(tk.1,none)from by rw[<-Qx];exact HTE.o.symm])
   have HP:=O (show cW base w2 B cs off v {p with waits:=tk.1} W from⟨v1,I1.o,F1.o,Z'.o,J9.o.eK⟩);rw[ru];clear J6 Qx LG HTE ru;go_wp2_with (first|((with_reducible refine cU 46 ?_);refine aI rfl 46 (.tmp 4) (.tmp 23) rfl (w.heap.size+1) #[.int .i64 2,.string ⟨#[]⟩,.int .i64 0] rfl rfl _ bP R1.o (ba _ rfl) rfl bS ?_)|fail)
   refine aR (bj bB _ _ (w.heap.size+1) 46 #[.int .i64 2,.string ⟨#[]⟩,.int .i64 0] (0,0) _ rfl (aY _ (w.heap.size+1) _ _ _ _ R1.o) underlying46 rfl (ba _ rfl)) rfl ?_;unfold eG;rw[HR.o];exact⟨rfl,dv (HP.o.after fR.o) pS.o oH.o (bT _) R1.o eN ag _⟩
  |some g =>
   have ru:ok=true:=by rw[LG.o,Qx];rfl
   obtain⟨r,V1,hr⟩:=J6 g Qx;have hgm:g∈p.waits:=Ab (o:=o.aF.o) (proxy:=o.proxy) (by rw[<-HTE.o];exact Qx);have hgp:=hwp g hgm;have HR:=O (show kT p (o.dX hs)=({p with waits:=tk.1,bZ:=uT p.bZ ⟨g.o,g.proxy,o.user,o.pass,g.a,0,nG g.a g.proxy g.path⟩},rep 1)by
    unfold kT;rw[show lR (o.dX hs).o (o.dX hs).proxy p.waits=(tk.1,some g)from by rw[<-Qx];exact HTE.o.symm];rfl)
   obtain⟨q1,q2,q3,q4⟩:=hr;have qa:=q4;obtain⟨e1,e2,e3,e4,e5,e6,e7,zY⟩:=q4;obtain⟨ad,cd,BF⟩:=zY.rd.form;have wU:X= #[.bool g.o.aD,.string g.o.host,.int .i64 g.o.port,.bool g.proxy,.string g.path,.int .i64 g.a.scheme,.string g.a.aO,.string g.a.bC,.string g.a.cj,.bool g.a.cy,.string g.a.eZ,.bool g.a.dr,.slice ad g.a.dom.length cd]:=by
    rw[V1];unfold bL.cells;rw[q1,q2,q3,e1,e2,e3,e4,e5,e6,e7,BF]
   rw[wU]at HXB;have ahV:r.a.cells=[.int .i64 g.a.scheme,.string g.a.aO,.string g.a.bC,.string g.a.cj,.bool g.a.cy,.string g.a.eZ,.bool g.a.dr,.slice ad g.a.dom.length cd]:=by unfold fX.cells;rw[e1,e2,e3,e4,e5,e6,e7,BF]
   have xm:=O (show∀U,Fr aX W U->aE 82 #[.agg #[.int .i64 g.a.scheme,.string g.a.aO,.string g.a.bC,.string g.a.cj,.bool g.a.cy,.string g.a.eZ,.bool g.a.dr,.slice ad g.a.dom.length cd],.bool g.proxy,.string g.path] U (qR base U (nG g.a g.proxy g.path))from fun U hU=>by
    have h:=PK base r.a g.a g.proxy g.path U (qa.mono (fun _ _ h=>h.dx hU)) ab;rw[ahV]at h;exact h)
   have HPU:=O (show∀U lv,Fr aX W U->df base U lv (nG g.a g.proxy g.path)->aE 79 #[.pointer (some ⟨v1.b,0,none⟩),.agg #[.bool g.o.aD,.string g.o.host,.int .i64 g.o.port,.bool g.proxy,.string o.user,.string o.pass,.int .i64 g.a.scheme,.string g.a.aO,.string g.a.bC,.string g.a.cj,.bool g.a.cy,.string g.a.eZ,.bool g.a.dr,.slice ad g.a.dom.length cd,.int .i64 0,lv]] U (Gq base U v1.b v1.gv v1.wv (uT p.bZ ⟨g.o,g.proxy,o.user,o.pass,g.a,0,nG g.a g.proxy g.path⟩) tk.1)from fun U lv hU hl=>by
    have h:=N6 base U v1.b v1.gv v1.wv p.bZ tk.1 ⟨g.o,g.proxy,o.user,o.pass,r.a,0,lv⟩ ⟨g.o,g.proxy,o.user,o.pass,g.a,0,nG g.a g.proxy g.path⟩ (I1.o.dx hU).oT ⟨rfl,rfl,rfl,rfl,qa.mono (fun _ _ h=>h.dx hU),rfl,hl⟩ ab;unfold aU.cells at h;rw[e1,e2,e3,e4,e5,e6,e7,BF]at h;exact h)
   have HC:=O (show∀U,Fr (dk v1.b v1.gv v1.wv) W U->(U.cell? ⟨B,off,none⟩=some (.pointer (some ⟨v1.b,0,none⟩))/\U.cell? ⟨n,0,none⟩=some (.bool g.o.aD)/\U.cell? ⟨n,1,none⟩=some (.string g.o.host)/\U.cell? ⟨n,2,none⟩=some (.int .i64 g.o.port)/\U.cell? ⟨n,3,none⟩=some (.bool g.proxy)/\U.cell? ⟨n,4,none⟩=some (.string g.path)/\U.cell? ⟨n,5,none⟩=some (.int .i64 g.a.scheme)/\U.cell? ⟨n,6,none⟩=some (.string g.a.aO)/\U.cell? ⟨n,7,none⟩=some (.string g.a.bC)/\U.cell? ⟨n,8,none⟩=some (.string g.a.cj)/\U.cell? ⟨n,9,none⟩=some (.bool g.a.cy)/\U.cell? ⟨n,10,none⟩=some (.string g.a.eZ)/\U.cell? ⟨n,11,none⟩=some (.bool g.a.dr)/\U.cell? ⟨n,12,none⟩=some (.slice ad g.a.dom.length cd)/\U.cell? ⟨w.heap.size,16,none⟩=some (.string o.user)/\U.cell? ⟨w.heap.size,17,none⟩=some (.string o.pass))from fun U hU=>by
    have j1:=J9.o.fr hU (fun hb=>I1.o.fa J9.o.eK ag (Or.inl hb));have j2:=hU.keep HXB.o (fun hb=>HNF.o (Or.inl hb));have j3:=hU.keep O1.o (fun hb=>I1.o.fa O1.o kX (Or.inl hb));obtain⟨a0,a1,a2,a3,a4,a5,a6,a7,a8,a9,jy,jz,a12,jw,jA,jb,jJ,jK,jL,jT,a20,a21⟩:=eo j3 lf.o;refine⟨j1.cell0,?_,?_,?_,?_,?_,?_,?_,?_,?_,?_,?_,?_,?_,jJ,jK⟩<;>simp[World.cell?,j2])
   rw[ru];clear J6 Qx LG HTE ru hgm hgp hwp qa q1 q2 q3 e1 e2 e3 e4 e5 e6 e7 zY BF wU ahV V1;go_wp2_with fail
   go_region_held3 (fun U=>Fr (dk v1.b v1.gv v1.wv) W U/\U.cell? ⟨B,off,none⟩=some (.pointer (some ⟨v1.b,0,none⟩))/\U.cell? ⟨n,0,none⟩=some (.bool g.o.aD)/\U.cell? ⟨n,1,none⟩=some (.string g.o.host)/\U.cell? ⟨n,2,none⟩=some (.int .i64 g.o.port)/\U.cell? ⟨n,3,none⟩=some (.bool g.proxy)/\U.cell? ⟨n,4,none⟩=some (.string g.path)/\U.cell? ⟨n,5,none⟩=some (.int .i64 g.a.scheme)/\U.cell? ⟨n,6,none⟩=some (.string g.a.aO)/\U.cell? ⟨n,7,none⟩=some (.string g.a.bC)/\U.cell? ⟨n,8,none⟩=some (.string g.a.cj)/\U.cell? ⟨n,9,none⟩=some (.bool g.a.cy)/\U.cell? ⟨n,10,none⟩=some (.string g.a.eZ)/\U.cell? ⟨n,11,none⟩=some (.bool g.a.dr)/\U.cell? ⟨n,12,none⟩=some (.slice ad g.a.dom.length cd)/\U.cell? ⟨w.heap.size,16,none⟩=some (.string o.user)/\U.cell? ⟨w.heap.size,17,none⟩=some (.string o.pass)) ((refine(fun hU=>⟨hU,HC.o _ hU⟩) ?_;first|exact aA (ae _ _)|assumption))
    ((first
     |(go_at_call 82;refine(xm.o _ (aA (ae _ _))).mono ?_;rintro e u5 ⟨lv,rfl,zV,lB⟩;obtain⟨pa,pc,Lv⟩:=zV.rd.form;subst Lv;have tG:Fr aX W u5:=(aA (ae _ _)).trans lB;have ahW:Fr (dk v1.b v1.gv v1.wv) W u5:=tG.mono (fun _ _ h=>absurd h id))
     |(go_at_call 79;refine(HPU.o _ _ tG zV).mono ?_;rintro e u6 ⟨rfl,Bj⟩;have Kp:Fr (dk v1.b v1.gv v1.wv) W u6:=ahW.trans (by obtain⟨_,_,_,h,_⟩:=Bj;exact h))))
   have Uv:=eR (I1.o.dx tG) (J9.o.dx tG) (I1.o.fa J9.o.eK ag) Bj;have HP:=O (show cW base w2 B cs off v {p with waits:=tk.1,bZ:=uT p.bZ ⟨g.o,g.proxy,o.user,o.pass,g.a,0,nG g.a g.proxy g.path⟩} u6 from gB F1.o Z'.o (cV tG Uv));have r6:=O (eI (B:=B) I1.o (Kp.mono (fun k _ hk=>Or.inr (Or.inl hk))) R1.o dS ab);clear Uv Bj Kp ahW tG zV lB HC xm HPU
   go_wp2_with (first|((with_reducible refine cU 46 ?_);refine aI rfl 46 (.tmp 4) (.tmp 45) rfl (w.heap.size+1) #[.int .i64 1,.string ⟨#[]⟩,.int .i64 0] rfl rfl _ bP r6.o (ba _ rfl) rfl bS ?_)|fail)
   refine aR (bj bB _ _ (w.heap.size+1) 46 #[.int .i64 1,.string ⟨#[]⟩,.int .i64 0] (0,0) _ rfl (aY _ (w.heap.size+1) _ _ _ _ r6.o) underlying46 rfl (ba _ rfl)) rfl ?_;unfold eG;rw[HR.o];exact⟨rfl,dv (HP.o.after fR.o) pS.o oH.o (bT _) r6.o eN ag _⟩
