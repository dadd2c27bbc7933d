/- Lemmas for the law's walk. -/
import Derived.Test.YtnckmcnffadjoaaGreatDoorPk16
set_option maxRecDepth 100000
set_option maxHeartbeats 16000000
set_option linter.unusedSimpArgs false
namespace Go.Proofs.YtnckmcnffadjoaaGreatDoor
open Go.Proofs.Tryz
open Go.RowKit
theorem nI.one{base:Nat}{w:World}{b:Nat}{gv wv:Value}{gs:List (aQ bE)}{u:List (bK bE)×Option (bK bE)}{e:Ending}{w':World}(h:nI base w b gv wv gs u e w') :
  kM base w b gv wv gs u.1 w'/\∃X:bT,e=.returned (.tuple #[.agg X,.bool u.2.isSome])/\X.size=13/\X.all (·.oneCell')=true/\∀x,u.2=some x->∃r:bK Value,X=r.cells.toArray/\r.Reads (dx base w') x:=by
 obtain⟨h1,h2⟩:=h;refine⟨h1,?_⟩;cases hu:u.2 with
 |none=>rw[hu]at h2;exact⟨wY,h2,rfl,QE,fun x hx=>by cases hx⟩
 |some g =>
  rw[hu]at h2;obtain⟨r,e1,e2,e3⟩:=h2;exact⟨r.cells.toArray,e1,rfl,b_ e3,fun x hx=>by cases hx;exact⟨r,rfl,e2⟩⟩
theorem MF{X:bT}(h:X.size=13):(prog.info? 133).map (·.size)=some X.size:=by rw[h];kernel_rfl
def AnJ(base:Nat)(w2:World)(B off:Nat)(cs:aZ)(v:cY)(p:dR)(x:Option (bK bE))(n:Nat)(X:bT)(W:World):Prop :=
 tD base w2 B off cs v p n X 133 W/\∀g,x=some g->∃r:bK Value,X=r.cells.toArray/\r.Reads (dx base W) g
theorem Jy(base:Nat)(w:World)(B off:Nat)(cs:aZ)(v:cY)(p:dR)(o:jO)(hs:List ig)(h:eV base w v p)(ha:gY w B cs off v)(oM:base<=B)(hf:gM w o hs)(hk:ny p)(hwp:∀x∈p.waits,x.path.size<=5000) :
  aB 32 #[.pointer (some ⟨B,off,none⟩),.agg o.cells.toArray] w (eK base w B cs off v (gi p (o.dW hs))):=by
 have vd:B<w.heap.size:=bq ha.eN;have Ho:¬v.kn B:=h.fq ha.eN ag;obtain⟨ah,ch,g_⟩:=hf.h_;obtain⟨w2,eG⟩:∃w2,w2=(w.alloc (.cells o.cells.toArray 41)).alloc (.cells bU 30):=⟨_,rfl⟩;have dE:Fr aS w w2:=by rw[eG];exact((ae aS w).alloc _).alloc _
 have k1:w2.heap[w.heap.size]?=some (.cells o.cells.toArray 41 (0,0)):=by rw[eG];exact((ae aS _).alloc _).keep (aC _ _) id
 have k2:w2.heap[w.heap.size+1]?=some (.cells bU 30 (0,0)):=by
  have h:=aC (w.alloc (.cells o.cells.toArray 41)) (.cells bU 30);rw[bP]at h;rw[eG];exact h
 have xI:w2.heap.size=w.heap.size+2:=by rw[eG];simp
 have WC:=O (show∀U,Fr aS w2 U->U.heap[w.heap.size]?=some (.cells o.cells.toArray 41 (0,0))from fun U hU=>hU.keep k1 id);have Da:=O Ho;have HH:=O h;have HA:=O ha;have HF:=O hf;have l_:=O g_;have HK:=O hk;have fU:=O dE;have mV:=O k1;have ra:=O k2;have py:=O (show base<=w.heap.size from ab);have xL:=O oM;have pn:=O vd;have Sv:=O eG
 obtain⟨a0,a1,a2,a3,a4,a5,a6,a7,a8,a9,jP,jQ,a12,jN,jR,jy,j_,ka,ke,ko,a20,a21⟩:=eA k1 g_;rw[eG]at a0 a1 a2 a3 a4 a5 a6 a7 a8 a9 jP jQ a12 jN jR jy j_ ka ke ko a20 a21;rw[eF g_]at eG a0 a1 a2 a3 a4 a5 a6 a7 a8 a9 jP jQ a12 jN jR jy j_ ka ke ko a20 a21 ⊢;unfold bU at eG a0 a1 a2 a3 a4 a5 a6 a7 a8 a9 jP jQ a12 jN jR jy j_ ka ke ko a20 a21;have nP:=O eG;clear eG g_ dE k1 k2 h ha hf Ho hk
 go_enter func32,ntmps32;have SK:=HK.o.sZ;have HC:=O (show∀U,Fr (dy v.b v.gv v.wv) w2 U->(U.cell? ⟨B,off,none⟩=some (.pointer (some ⟨v.b,0,none⟩))/\U.cell? ⟨w.heap.size,5,none⟩=some (.bool o.aN.o.aG)/\U.cell? ⟨w.heap.size,6,none⟩=some (.string o.aN.o.host)/\U.cell? ⟨w.heap.size,7,none⟩=some (.int .i64 o.aN.o.port)/\U.cell? ⟨w.heap.size,14,none⟩=some (.bool o.proxy))from fun U hU=>by
  have j1:=(HA.o.dm fU.o).fr hU (fun hb=>Da.o (Or.inl hb));have j2:=hU.keep mV.o (fun hb=>(HH.o.dm fU.o).fq mV.o jw (Or.inl hb));obtain⟨a0,a1,a2,a3,a4,a5,a6,a7,a8,a9,jP,jQ,a12,jN,jR,jy,j_,ka,ke,ko,a20,a21⟩:=eA j2 l_.o;exact⟨j1.cell0,a5,a6,a7,jR⟩)
 have Rj:=O (show∀U,Fr aS w2 U->aB 59 #[.pointer (some ⟨v.b,0,none⟩),.agg #[.bool o.aN.o.aG,.string o.aN.o.host,.int .i64 o.aN.o.port],.bool o.proxy] U (nI base U v.b v.gv v.wv p.bG (mB o.aN.o o.proxy p.waits))from fun U hU=>LN base U v.b v.gv v.wv p.bG p.waits o.aN.o o.proxy ((HH.o.dm fU.o).dm hU).oK ab);have sN:=nP.o;go_wp2_with fail
 rw[<-sN];clear a0 a1 a2 a3 a4 a5 a6 a7 a8 a9 jP jQ a12 jN jR jy j_ ka ke ko a20 a21 sN xI;have akI:=O (show base<=w2.heap.size from aE py.o fU.o.size);have akJ:=O (show B<w2.heap.size from cK pn.o fU.o.size);obtain⟨tk,htk⟩:∃tk,tk=mB o.aN.o o.proxy p.waits:=⟨_,rfl⟩;rw[<-htk]at Rj;have HTE:=O htk;clear htk;obtain⟨ok,Bm⟩:∃ok,ok=tk.2.isSome:=⟨_,rfl⟩;have NZ:=O Bm;clear Bm
 apply Wk (P:=AnJ base w2 B off cs v {p with waits:=tk.1} tk.2)
 ·intro hJ;have HJ:=O hJ;clear hJ;refine wp_region_held_drew (S:=(fun U=>U.cell? ⟨B,off,none⟩=some (.pointer (some ⟨v.b,0,none⟩))/\U.cell? ⟨w.heap.size,5,none⟩=some (.bool o.aN.o.aG)/\U.cell? ⟨w.heap.size,6,none⟩=some (.string o.aN.o.host)/\U.cell? ⟨w.heap.size,7,none⟩=some (.int .i64 o.aN.o.port)/\U.cell? ⟨w.heap.size,14,none⟩=some (.bool o.proxy))) af (HC.o _ (aA (ae _ _))) ?_;intro zl
  refine aU 0 8 rfl ?_;refine aU 1 9 rfl ?_;refine aU 2 10 rfl ?_;refine aU 3 11 rfl ?_;refine aU 4 12 rfl ?_;refine aU 5 13 rfl ?_;refine aU 6 14 rfl ?_;refine aU 7 15 rfl ?_;refine aU 8 16 rfl ?_;refine aU 9 17 rfl ?_;refine EM 10 14 rfl rfl (fun K hK=>?_) fun K hK=>?_
  ·go_simp;refine(Rj.o _ (aA (ae _ _))).mono ?_;rintro e u3 Mk;obtain⟨tO,X,rfl,Hp,Ml,EC⟩:=nI.one Mk;rw[<-NZ.o];have OU:=O tO;have HX:=O (And.intro Hp (And.intro Ml EC));have xb:Fr (dy v.b v.gv v.wv) w2 u3:=(aA (ae _ _)).trans (by obtain⟨_,_,_,h,_⟩:=tO;exact h);have BG:=O xb;clear Mk tO Hp Ml EC xb;refine hK.out _ _ (HC.o _ BG.o) ?_;intro xF;clear hK zl K
   try simp only[Act.put,sA,sB,sC]
   refine aU 11 7 rfl ?_;refine aU 12 19 rfl ?_;refine aU 13 20 rfl ?_;refine eR 14 rfl fun K hK=>?_;go_simp;obtain⟨n,hne⟩:∃n,n=u3.heap.size:=⟨_,rfl⟩;obtain⟨w4,qQ⟩:∃w4,w4=u3.alloc (.cells wY 133):=⟨_,rfl⟩;have WD:w4.heap[n]?=some (.cells wY 133 (0,0)):=by rw[qQ,hne];exact aC _ _
   have kS:Fr (dy v.b v.gv v.wv) w2 w4:=by rw[qQ];exact BG.o.alloc _
   have HZ4:=O WD;have j6:=O kS;have OG:=O qQ;have CU:=O hne;rw[<-qQ, <-hne];clear qQ hne WD kS;refine hK.out _ _ (HC.o _ j6.o) ?_;intro Aw;clear hK xF K
   try simp only[Act.put,sA,sB,sC]
   refine eR 15 rfl fun K hK=>?_;refine j9 rfl 133 (.tmp 5) (.tmp 19) rfl n X rfl rfl 133 wY HZ4.o (MF HX.o.1) HX.o.1.symm HX.o.2.1 ?_;obtain⟨W,hW⟩:∃W,W=w4.setRow n X:=⟨_,rfl⟩;have Cp:Fr (dy v.b v.gv v.wv) w2 W:=by rw[hW];exact je j6.o (by rw[CU.o];exact BG.o.size) _
   have hP:=tD.after (z:=wY) (di (aA (ae aS w2)) (eW ((HH.o.dm fU.o).dm (aA (ae aS w2))) ((HA.o.dm fU.o).dm (aA (ae aS w2))) Da.o OU.o)) akI.o akJ.o (t:=133) ag X;rw[<-OG.o, <-CU.o, <-hW]at hP;rw[<-hW];refine hK.out _ _ (HC.o _ Cp) ?_;intro F0;clear hK Aw K
   try simp only[Act.put,sA,sB,sC]
   refine aU 16 6 rfl ?_;clear F0;refine wpAnyH_done af ?_ _;exact HJ.o n X W ⟨hP.1,fun g hg=>by
    obtain⟨r,e1,e2⟩:=HX.o.2.2 g hg;exact⟨r,e1,e2.mono (fun v l h=>hP.2 v l h)⟩⟩
  ·go_simp;obtain⟨n,hne⟩:∃n,n=w2.heap.size:=⟨_,rfl⟩;obtain⟨w4,qQ⟩:∃w4,w4=(w2.alloc (.cells wY 133)).drew:=⟨_,rfl⟩;have WD:w4.heap[n]?=some (.cells wY 133 (0,0)):=by rw[qQ,hne];exact aC w2 _
   have kS:Fr aS w2 w4:=by rw[qQ];exact((ae _ _).alloc _).drew
   have HZ4:=O WD;have j6:=O kS;have CU:=O (show w2.heap.size<=n from ab);rw[<-qQ, <-hne];clear qQ hne WD kS;refine hK.out _ _ (HC.o _ (j6.o.mono (fun _ _ h=>absurd h id))) ?_;intro xF;clear hK zl K
   try simp only[Act.put,sA,sB,sC]
   refine eR 10 rfl fun K hK=>?_;go_simp;refine(Rj.o _ j6.o).mono ?_;rintro e u3 Mk;obtain⟨tO,X,rfl,Hp,Ml,EC⟩:=nI.one Mk;rw[<-NZ.o];have OU:=O tO;have HX:=O (And.intro Hp (And.intro Ml EC));have xb:Fr (dy v.b v.gv v.wv) w2 u3:=(j6.o.mono (fun _ _ h=>absurd h id)).trans (by obtain⟨_,_,_,h,_⟩:=tO;exact h)
   have UO:u3.heap[n]?=some (.cells wY 133 (0,0)):=(show Fr (dy v.b v.gv v.wv) w4 u3 by obtain⟨_,_,_,h,_⟩:=tO;exact h).keep HZ4.o (fun hb=>by have:=(HH.o.dm fU.o).jq (Or.inl hb);have:=CU.o;omega);have BG:=O xb;have HZ3:=O UO;clear Mk tO Hp Ml EC xb UO;refine hK.out _ _ (HC.o _ BG.o) ?_;intro Aw;clear hK xF K
   try simp only[Act.put,sA,sB,sC]
   refine aU 11 7 rfl ?_;refine aU 12 19 rfl ?_;refine aU 13 20 rfl ?_;refine eR 15 rfl fun K hK=>?_;refine j9 rfl 133 (.tmp 5) (.tmp 19) rfl n X rfl rfl 133 wY HZ3.o (MF HX.o.1) HX.o.1.symm HX.o.2.1 ?_;obtain⟨W,hW⟩:∃W,W=u3.setRow n X:=⟨_,rfl⟩;have Cp:Fr (dy v.b v.gv v.wv) w2 W:=by rw[hW];exact je BG.o CU.o _
   have hP:=tD.before (HH.o.dm fU.o) j6.o CU.o HZ4.o (eW ((HH.o.dm fU.o).dm j6.o) ((HA.o.dm fU.o).dm j6.o) Da.o OU.o) akI.o akJ.o ag X;rw[<-hW]at hP;rw[<-hW];refine hK.out _ _ (HC.o _ Cp) ?_;intro F0;clear hK Aw K
   try simp only[Act.put,sA,sB,sC]
   refine aU 16 6 rfl ?_;clear F0;refine wpAnyH_done af ?_ _;exact HJ.o n X W ⟨hP.1,fun g hg=>by
    obtain⟨r,e1,e2⟩:=HX.o.2.2 g hg;exact⟨r,e1,e2.mono (fun v l h=>hP.2 v l h)⟩⟩
 ·intro n X W hj;obtain⟨⟨v1,i1,f1,Co,WE,hX,WG,Wl⟩,Hn⟩:=hj;have aa1:=iy (HA.o.dm fU.o) WE;have o1:=eM (HH.o.dm fU.o) f1 mV.o jw ab;have r1:=eM (HH.o.dm fU.o) f1 ra.o dM ab;have I1:=O i1;have F1:=O f1;have FT1:=O Co;have Mm:=O aa1;have O1:=O o1;have R1:=O r1;have HXB:=O hX;have HNF:=O WG;have HNA:=O Wl;clear i1 f1 Co aa1 o1 r1 WE hX WG Wl Rj HC;cases S':tk.2 with
  |none =>
   have rZ:ok=false:=by rw[NZ.o,S'];rfl
   have HR:=O (show gi p (o.dW hs)=({p with waits:=tk.1},rep 2)by
    unfold gi;rw[show mB (o.dW hs).o (o.dW hs).proxy p.waits=(tk.1,none)from by rw[<-S'];exact HTE.o.symm])
   have HP:=O (show dn base w2 B cs off v {p with waits:=tk.1} W from⟨v1,I1.o,F1.o,FT1.o,Mm.o.eN⟩);rw[rZ];clear Hn S' NZ HTE rZ;go_wp2_with (first|((with_reducible refine cZ 30 ?_);refine aF rfl 30 (.tmp 4) (.tmp 23) rfl (w.heap.size+1) #[.int .i64 2,.string ⟨#[]⟩,.int .i64 0] rfl rfl _ bU R1.o (bf _ rfl) rfl cC ?_)|fail)
   refine aW (bw bD _ _ (w.heap.size+1) 30 #[.int .i64 2,.string ⟨#[]⟩,.int .i64 0] (0,0) _ rfl (a_ _ (w.heap.size+1) _ _ _ _ R1.o) underlying30 rfl (bf _ rfl)) rfl ?_;unfold eK;rw[HR.o];exact⟨rfl,dC (HP.o.after fU.o) py.o pn.o (bX _) R1.o eQ ag _⟩
  |some g =>
   have rZ:ok=true:=by rw[NZ.o,S'];rfl
   obtain⟨r,Yz,hr⟩:=Hn g S';have hgm:g∈p.waits:=Bz (o:=o.aN.o) (proxy:=o.proxy) (by rw[<-HTE.o];exact S');have hgp:=hwp g hgm;have HR:=O (show gi p (o.dW hs)=({p with waits:=tk.1,bG:=vU p.bG ⟨g.o,g.proxy,o.user,o.pass,g.a,0,ob g.a g.proxy g.path⟩},rep 1)by
    unfold gi;rw[show mB (o.dW hs).o (o.dW hs).proxy p.waits=(tk.1,some g)from by rw[<-S'];exact HTE.o.symm];rfl)
   obtain⟨q1,q2,q3,q4⟩:=hr;have qa:=q4;obtain⟨e1,e2,e3,e4,e5,e6,e7,Bu⟩:=q4;obtain⟨ad,cd,yc⟩:=Bu.rd.form;have xY:X= #[.bool g.o.aG,.string g.o.host,.int .i64 g.o.port,.bool g.proxy,.string g.path,.int .i64 g.a.scheme,.string g.a.aM,.string g.a.bu,.string g.a.cz,.bool g.a.cD,.string g.a.eJ,.bool g.a.cR,.slice ad g.a.dom.length cd]:=by
    rw[Yz];unfold bK.cells;rw[q1,q2,q3,e1,e2,e3,e4,e5,e6,e7,yc]
   rw[xY]at HXB;have akL:r.a.cells=[.int .i64 g.a.scheme,.string g.a.aM,.string g.a.bu,.string g.a.cz,.bool g.a.cD,.string g.a.eJ,.bool g.a.cR,.slice ad g.a.dom.length cd]:=by unfold fQ.cells;rw[e1,e2,e3,e4,e5,e6,e7,yc]
   have xn:=O (show∀U,Fr aS W U->aB 60 #[.agg #[.int .i64 g.a.scheme,.string g.a.aM,.string g.a.bu,.string g.a.cz,.bool g.a.cD,.string g.a.eJ,.bool g.a.cR,.slice ad g.a.dom.length cd],.bool g.proxy,.string g.path] U (rG base U (ob g.a g.proxy g.path))from fun U hU=>by
    have h:=R8 base r.a g.a g.proxy g.path U (qa.mono (fun _ _ h=>h.dm hU)) ab;rw[akL]at h;exact h)
   have HPU:=O (show∀U lv,Fr aS W U->dx base U lv (ob g.a g.proxy g.path)->aB 57 #[.pointer (some ⟨v1.b,0,none⟩),.agg #[.bool g.o.aG,.string g.o.host,.int .i64 g.o.port,.bool g.proxy,.string o.user,.string o.pass,.int .i64 g.a.scheme,.string g.a.aM,.string g.a.bu,.string g.a.cz,.bool g.a.cD,.string g.a.eJ,.bool g.a.cR,.slice ad g.a.dom.length cd,.int .i64 0,lv]] U (Jb base U v1.b v1.gv v1.wv (vU p.bG ⟨g.o,g.proxy,o.user,o.pass,g.a,0,ob g.a g.proxy g.path⟩) tk.1)from fun U lv hU hl=>by
    have h:=QB base U v1.b v1.gv v1.wv p.bG tk.1 ⟨g.o,g.proxy,o.user,o.pass,r.a,0,lv⟩ ⟨g.o,g.proxy,o.user,o.pass,g.a,0,ob g.a g.proxy g.path⟩ (I1.o.dm hU).oK ⟨rfl,rfl,rfl,rfl,qa.mono (fun _ _ h=>h.dm hU),rfl,hl⟩ ab;unfold aQ.cells at h;rw[e1,e2,e3,e4,e5,e6,e7,yc]at h;exact h)
   have HC:=O (show∀U,Fr (dy v1.b v1.gv v1.wv) W U->(U.cell? ⟨B,off,none⟩=some (.pointer (some ⟨v1.b,0,none⟩))/\U.cell? ⟨n,0,none⟩=some (.bool g.o.aG)/\U.cell? ⟨n,1,none⟩=some (.string g.o.host)/\U.cell? ⟨n,2,none⟩=some (.int .i64 g.o.port)/\U.cell? ⟨n,3,none⟩=some (.bool g.proxy)/\U.cell? ⟨n,4,none⟩=some (.string g.path)/\U.cell? ⟨n,5,none⟩=some (.int .i64 g.a.scheme)/\U.cell? ⟨n,6,none⟩=some (.string g.a.aM)/\U.cell? ⟨n,7,none⟩=some (.string g.a.bu)/\U.cell? ⟨n,8,none⟩=some (.string g.a.cz)/\U.cell? ⟨n,9,none⟩=some (.bool g.a.cD)/\U.cell? ⟨n,10,none⟩=some (.string g.a.eJ)/\U.cell? ⟨n,11,none⟩=some (.bool g.a.cR)/\U.cell? ⟨n,12,none⟩=some (.slice ad g.a.dom.length cd)/\U.cell? ⟨w.heap.size,16,none⟩=some (.string o.user)/\U.cell? ⟨w.heap.size,17,none⟩=some (.string o.pass))from fun U hU=>by
    have j1:=Mm.o.fr hU (fun hb=>I1.o.fq Mm.o.eN ag (Or.inl hb));have j2:=hU.keep HXB.o (fun hb=>HNF.o (Or.inl hb));have j3:=hU.keep O1.o (fun hb=>I1.o.fq O1.o jw (Or.inl hb));obtain⟨a0,a1,a2,a3,a4,a5,a6,a7,a8,a9,jP,jQ,a12,jN,jR,jy,j_,ka,ke,ko,a20,a21⟩:=eA j3 l_.o;refine⟨j1.cell0,?_,?_,?_,?_,?_,?_,?_,?_,?_,?_,?_,?_,?_,j_,ka⟩<;>simp[World.cell?,j2])
   rw[rZ];clear Hn S' NZ HTE rZ hgm hgp hwp qa q1 q2 q3 e1 e2 e3 e4 e5 e6 e7 Bu yc xY akL Yz;go_wp2_with fail
   go_region_held3 (fun U=>Fr (dy v1.b v1.gv v1.wv) W U/\U.cell? ⟨B,off,none⟩=some (.pointer (some ⟨v1.b,0,none⟩))/\U.cell? ⟨n,0,none⟩=some (.bool g.o.aG)/\U.cell? ⟨n,1,none⟩=some (.string g.o.host)/\U.cell? ⟨n,2,none⟩=some (.int .i64 g.o.port)/\U.cell? ⟨n,3,none⟩=some (.bool g.proxy)/\U.cell? ⟨n,4,none⟩=some (.string g.path)/\U.cell? ⟨n,5,none⟩=some (.int .i64 g.a.scheme)/\U.cell? ⟨n,6,none⟩=some (.string g.a.aM)/\U.cell? ⟨n,7,none⟩=some (.string g.a.bu)/\U.cell? ⟨n,8,none⟩=some (.string g.a.cz)/\U.cell? ⟨n,9,none⟩=some (.bool g.a.cD)/\U.cell? ⟨n,10,none⟩=some (.string g.a.eJ)/\U.cell? ⟨n,11,none⟩=some (.bool g.a.cR)/\U.cell? ⟨n,12,none⟩=some (.slice ad g.a.dom.length cd)/\U.cell? ⟨w.heap.size,16,none⟩=some (.string o.user)/\U.cell? ⟨w.heap.size,17,none⟩=some (.string o.pass)) ((refine(fun hU=>⟨hU,HC.o _ hU⟩) ?_;first|exact aA (ae _ _)|assumption))
    ((first
     |(go_at_call 60;refine(xn.o _ (aA (ae _ _))).mono ?_;rintro e u5 ⟨lv,rfl,xN,lN⟩;obtain⟨pa,pc,NP⟩:=xN.rd.form;subst NP;have uz:Fr aS W u5:=(aA (ae _ _)).trans lN;have akM:Fr (dy v1.b v1.gv v1.wv) W u5:=uz.mono (fun _ _ h=>absurd h id))
     |(go_at_call 57;refine(HPU.o _ _ uz xN).mono ?_;rintro e u6 ⟨rfl,Bq⟩;have F9:Fr (dy v1.b v1.gv v1.wv) W u6:=akM.trans (by obtain⟨_,_,_,h,_⟩:=Bq;exact h))))
   have WJ:=eW (I1.o.dm uz) (Mm.o.dm uz) (I1.o.fq Mm.o.eN ag) Bq;have HP:=O (show dn base w2 B cs off v {p with waits:=tk.1,bG:=vU p.bG ⟨g.o,g.proxy,o.user,o.pass,g.a,0,ob g.a g.proxy g.path⟩} u6 from gP F1.o FT1.o (di uz WJ));have r6:=O (eM (B:=B) I1.o (F9.mono (fun k _ hk=>Or.inr (Or.inl hk))) R1.o dM ab);clear WJ Bq F9 akM uz xN lN HC xn HPU
   go_wp2_with (first|((with_reducible refine cZ 30 ?_);refine aF rfl 30 (.tmp 4) (.tmp 45) rfl (w.heap.size+1) #[.int .i64 1,.string ⟨#[]⟩,.int .i64 0] rfl rfl _ bU r6.o (bf _ rfl) rfl cC ?_)|fail)
   refine aW (bw bD _ _ (w.heap.size+1) 30 #[.int .i64 1,.string ⟨#[]⟩,.int .i64 0] (0,0) _ rfl (a_ _ (w.heap.size+1) _ _ _ _ r6.o) underlying30 rfl (bf _ rfl)) rfl ?_;unfold eK;rw[HR.o];exact⟨rfl,dC (HP.o.after fU.o) py.o pn.o (bX _) r6.o eQ ag _⟩
