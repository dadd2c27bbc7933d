/- Lemmas for the law's walk. -/
import Derived.Test.YtnckmcnffadjoaaGreatDoorPk25
set_option maxRecDepth 100000
set_option maxHeartbeats 16000000
set_option linter.unusedSimpArgs false
namespace Go.Proofs.YtnckmcnffadjoaaGreatDoor
open Go.Proofs.Tryz
open Go.RowKit
variable {w w' U:World} {b o p i n T j:Nat} {e:Ending} {g:aP bD} {u:Value} {S:Nat->Prop} {cs:List Value}
structure xA (w:World):Prop where
 db:om w 9 .u8 Rl
 md:tI w
 sh:tL w
theorem xA.fr(h:xA w)(hf:Fr aR w w'):xA w':=⟨h.db.fr hf,h.md.fr hf,h.sh.fr hf⟩
def ajI(u:Except Nat (aP bD)):Value:=match u with| .ok _=>.nilIface| .error n=>.iface 105 (.int .i64 n)
theorem rj.one{base:Nat}{gv wv:Value}{ws:List (bI bD)}{u:List (aP bD)×Except Nat (aP bD)}(h:rj base w b gv wv ws u e w') :
  kF base w b gv wv u.1 ws w'/\∃X:Array Value,e=.returned (.tuple #[.agg X,ajI u.2])/\X.size=16/\X.all (·.oneCell')=true/\∀x,u.2=.ok x->∃r:aP Value,X=r.cells.toArray/\r.Reads (dr base w') x:=by
 obtain⟨h1,h2⟩:=h;refine⟨h1,?_⟩;cases hu:u.2 with
 |error n=>rw[hu]at h2;exact⟨eS,h2,rfl,dp,fun x hx=>by cases hx⟩
 |ok g =>
  rw[hu]at h2;obtain⟨r,e1,e2,e3⟩:=h2;exact⟨r.cells.toArray,e1,rfl,bW e3,fun x hx=>by cases hx;exact⟨r,rfl,e2⟩⟩
theorem EE{X:Array Value}(h:X.size=16):(prog.info? 114).map (·.size)=some X.size:=by rw[h];kernel_rfl
def AtJ(base:Nat)(w2:World)(B off:Nat)(cs:List Value)(v:cU)(p:dM)(x:Except Nat (aP bD))(n:Nat)(X:Array Value)(W:World):Prop :=
 tu base w2 B off cs v p n X 114 W/\∀g,x=.ok g->∃r:aP Value,X=r.cells.toArray/\r.Reads (dr base W) g
theorem OA{o:iz}(h1:g.a.scheme=1)(h:qL g o=none)(hu:g.user.size<=100000)(hp:g.pass.size<=100000) :
  Calls prog 49 #[.agg #[.string g.user,.string g.pass]] U fun e w'=>(∃t v,e=.returned (.tuple #[.string ⟨#[]⟩,.iface t v]))/\Fr aR U w':=by
 refine(GD g.user g.pass U hu hp).mono ?_;rintro e u⟨hb,hf⟩;refine⟨?_,hf⟩;unfold qL at h;rw[az h1]at h;unfold mT at hb;by_cases hc:0<=Lib.indexByte g.user.data.toList 58
 ·rw[az hc]at hb;exact⟨_,_,hb⟩
 ·rw[aq hc]at hb h;cases hq:(lI g.user&&lI g.pass)
  ·rw[hq]at hb;exact⟨_,_,hb⟩
  ·rw[hq]at h;cases h
theorem OB{o:iz}{s:aj}(h1:g.a.scheme=1)(h:qL g o=some s)(hu:g.user.size<=100000)(hp:g.pass.size<=100000) :
  Calls prog 49 #[.agg #[.string g.user,.string g.pass]] U fun e w'=>e=.returned (.tuple #[.string s,.nilIface])/\Fr aR U w':=by
 refine(GD g.user g.pass U hu hp).mono ?_;rintro e u⟨hb,hf⟩;refine⟨?_,hf⟩;unfold qL at h;rw[az h1]at h;unfold mT at hb;by_cases hc:0<=Lib.indexByte g.user.data.toList 58
 ·rw[az hc]at h;cases h
 ·rw[aq hc]at hb h;cases hq:(lI g.user&&lI g.pass)
  ·rw[hq]at h;cases h
  ·rw[hq]at hb h;cases h;exact hb
section
variable {g : aP bD} {o : iz} {s : ByteArray} {U : World} {dom : Value}
theorem Wm(dY:dom.oneCell'=true)(hg:VV g)(hm:(jM o.method).size<=5000)(ht:(nK o.path o.query).size<=5000)(hb:o.body.size<=5000)(hc:o.bP.size<=5000)(hT:xA U) :
  Calls prog 50 #[.agg #[.int .i64 g.a.scheme,.string g.a.aK,.string g.a.bq,.string g.a.cj,.bool g.a.cy,.string g.a.eE,.bool g.a.cM,dom],.agg #[.string g.user,.string g.pass],.string (jM o.method),.string (nK o.path o.query),.string o.body,.string o.bP,.int .i64 g.count] U (o8 g.a.scheme g.a.cj (o.Z3 g) g.count U):=by
 obtain⟨⟨a1,a2,a3,a4⟩,a5,a6⟩:=hg;exact Sf g.a.scheme g.a.aK g.a.bq g.a.cj g.a.eE g.user g.pass (jM o.method) (nK o.path o.query) o.body o.bP g.a.cy g.a.cM dom g.count U dY ab ab ab a5 a6 hm ht hb hc hT.db (We _ _ hT.md hT.sh)
theorem Wn(h1:¬g.a.scheme=1)(h:qL g o=none)(hd:o8 g.a.scheme g.a.cj (o.Z3 g) g.count U e w'):(∃t v,e=.returned (.tuple #[.string ⟨#[]⟩,.iface t v]))/\Fr aR U w':=by
 unfold qL at h;rw[aq h1]at h;obtain⟨hf,hd⟩:=hd;refine⟨?_,hf⟩;rcases hd with ⟨_,hd⟩|⟨hg,_⟩
 ·exact hd
 ·split at h
  ·cases h
  ·rename_i hn;exact absurd hg hn
theorem Wo(h1:¬g.a.scheme=1)(h:qL g o=some s)(hd:o8 g.a.scheme g.a.cj (o.Z3 g) g.count U e w'):e=.returned (.tuple #[.string s,.nilIface])/\Fr aR U w':=by
 unfold qL at h;rw[aq h1]at h;obtain⟨hf,hd⟩:=hd;refine⟨?_,hf⟩;rcases hd with ⟨hg,_⟩|⟨hg,hd⟩
 ·split at h
  ·rename_i hc;exact absurd hc hg
  ·cases h
 ·split at h
  ·cases h;exact hd
  ·rename_i hn;exact absurd hg hn
end
theorem Sp(s:aj)(h:s.size<=5000):(jM s).size<=5000:=by
 rcases zu iH s with ⟨h1,_⟩|h1
 ·have:=(show∀x∈iH,x.size<=5000 from ag) _ h1;exact this
 ·show(ny iH s).size<=5000;rw[h1];exact h
theorem Sq(p q:aj)(h:p.size<=2000)(h2:q.size<=2000):(nK p q).size<=5000:=by
 unfold nK;split
 ·omega
 ·rw[jg,jg,show(ByteArray.mk #[63]).size=1 from rfl];omega
theorem OC(base:Nat)(w:World)(B off:Nat)(cs:List Value)(v:cU)(p:dM)(o:jG)(hs:List gZ)(h:eP base w v p)(ha:gT w B cs off v)(oF:base<=B)(hf:gH w o hs)(hk:nr p)(pk:rY p)(a:World)(tN:xA a)(sG:a.heap.size<=base)(tO:Fr aR a w) :
  Calls prog 30 #[.pointer (some ⟨B,off,none⟩),.agg o.cells.toArray] w (eF base w B cs off v (iw p (o.dS hs))):=by
 have uW:B<w.heap.size:=bj ha.eI;have Hf:¬v.ke B:=h.fg ha.eI ag;obtain⟨ah,ch,gV⟩:=hf.gX;obtain⟨w2,eB⟩:∃w2,w2=(w.alloc (.cells o.cells.toArray 41)).alloc (.cells bR 30):=⟨_,rfl⟩;have dy:Fr aR w w2:=by rw[eB];exact((ae aR w).alloc _).alloc _
 have k1:w2.heap[w.heap.size]?=some (.cells o.cells.toArray 41 (0,0)):=by rw[eB];exact((ae aR _).alloc _).keep (aB _ _) id
 have k2:w2.heap[w.heap.size+1]?=some (.cells bR 30 (0,0)):=by
  have h:=aB (w.alloc (.cells o.cells.toArray 41)) (.cells bR 30);rw[bM]at h;rw[eB];exact h
 have xD:w2.heap.size=w.heap.size+2:=by rw[eB];simp
 have Wp:=O (show∀U,Fr aR w2 U->U.heap[w.heap.size]?=some (.cells o.cells.toArray 41 (0,0))from fun U hU=>hU.keep k1 id);have C5:=O Hf;have HH:=O h;have HA:=O ha;have HF:=O hf;have lS:=O gV;have HK:=O hk;have fO:=O dy;have mP:=O k1;have qR:=O k2;have pj:=O (show base<=w.heap.size from ab);have xG:=O oF;have o9:=O uW;have Se:=O eB
 obtain⟨a0,a1,a2,a3,a4,a5,a6,a7,a8,a9,jI,jJ,a12,jH,jK,jr,jY,jZ,j5,kf,a20,a21⟩:=eh k1 gV;rw[eB]at a0 a1 a2 a3 a4 a5 a6 a7 a8 a9 jI jJ a12 jH jK jr jY jZ j5 kf a20 a21;rw[eA gV]at eB a0 a1 a2 a3 a4 a5 a6 a7 a8 a9 jI jJ a12 jH jK jr jY jZ j5 kf a20 a21 ⊢;unfold bR at eB a0 a1 a2 a3 a4 a5 a6 a7 a8 a9 jI jJ a12 jH jK jr jY jZ j5 kf a20 a21;have nJ:=O eB;clear eB gV dy k1 k2 h ha hf Hf hk
 obtain⟨x3,xU⟩:∃x3,x3=w2.alloc (.cells #[.int .i64 o.aL.part,.bool o.aL.dm.aF,.string o.aL.dm.host,.int .i64 o.aL.dm.port,.bool o.aL.o.aF,.string o.aL.o.host,.int .i64 o.aL.o.port,.string o.aL.path,.string o.aL.query,.string o.aL.method,.slice ah hs.length ch,.bool o.aL.fU,.string o.aL.body] 37):=⟨_,rfl⟩;have aaE:Fr aR w2 x3:=by rw[xU];exact(ae _ _).alloc _
 have ZE:x3.heap[w.heap.size+2]?=some (.cells #[.int .i64 o.aL.part,.bool o.aL.dm.aF,.string o.aL.dm.host,.int .i64 o.aL.dm.port,.bool o.aL.o.aF,.string o.aL.o.host,.int .i64 o.aL.o.port,.string o.aL.path,.string o.aL.query,.string o.aL.method,.slice ah hs.length ch,.bool o.aL.fU,.string o.aL.body] 37 (0,0)):=by
  have h:=aB w2 (.cells #[.int .i64 o.aL.part,.bool o.aL.dm.aF,.string o.aL.dm.host,.int .i64 o.aL.dm.port,.bool o.aL.o.aF,.string o.aL.o.host,.int .i64 o.aL.o.port,.string o.aL.path,.string o.aL.query,.string o.aL.method,.slice ah hs.length ch,.bool o.aL.fU,.string o.aL.body] 37);rw[xD]at h;rw[xU];exact h
 have OD:x3.heap.size=w.heap.size+3:=by rw[xU];simp;omega
 have ic:=O (fO.o.trans aaE);have HQ3:=O ZE;have TV:=O xU;have H3:=O (HH.o.dh ic.o);have A3:=O (HA.o.dh ic.o);have KO:=O (aaE.keep mP.o id);have KR:=O (aaE.keep qR.o id);have Sr:=O (tO.trans ic.o);have Ss:=O tN;have HSM:=O pk;have awj:=O OD;have Su:=HK.o.tG;clear xU aaE ZE tN pk tO;go_enter func30,ntmps30
 have HC:=O (show∀U,Fr (dt v.b v.gv v.wv) x3 U->(U.cell? ⟨B,off,none⟩=some (.pointer (some ⟨v.b,0,none⟩))/\U.cell? ⟨w.heap.size+2,4,none⟩=some (.bool o.aL.o.aF)/\U.cell? ⟨w.heap.size+2,5,none⟩=some (.string o.aL.o.host)/\U.cell? ⟨w.heap.size+2,6,none⟩=some (.int .i64 o.aL.o.port)/\U.cell? ⟨w.heap.size+2,7,none⟩=some (.string o.aL.path)/\U.cell? ⟨w.heap.size,14,none⟩=some (.bool o.proxy))from fun U hU=>by
  have j1:=A3.o.fr hU (fun hb=>C5.o (Or.inl hb));have j2:=hU.keep HQ3.o (fun hb=>H3.o.fg HQ3.o G' (Or.inl hb));have j3:=hU.keep KO.o (fun hb=>H3.o.fg KO.o jo (Or.inl hb));obtain⟨a0,a1,a2,a3,a4,a5,a6,a7,a8,a9,jI,jJ,a12,jH,jK,jr,jY,jZ,j5,kf,a20,a21⟩:=eh j3 lS.o;refine⟨j1.cell0,?_,?_,?_,?_,jK⟩<;>simp[World.cell?,j2])
 have HUS:=O (show∀U,Fr aR x3 U->Calls prog 48 #[.pointer (some ⟨v.b,0,none⟩),.agg #[.bool o.aL.o.aF,.string o.aL.o.host,.int .i64 o.aL.o.port],.bool o.proxy,.string o.aL.path] U (rj base U v.b v.gv v.wv p.waits (vQ p.bF o.aL.o o.proxy o.aL.path))from fun U hU=>ZQ base U v.b v.gv v.wv p.bF p.waits o.aL.o o.proxy o.aL.path (H3.o.dh hU).oC ab HK.o.nat)
 obtain⟨us,hus⟩:∃us,us=vQ p.bF o.aL.o o.proxy o.aL.path:=⟨_,rfl⟩;rw[<-hus]at HUS;have HUE:=O hus;obtain⟨ev,Yv⟩:∃ev,ev=ajI us.2:=⟨_,rfl⟩;have QB:=O Yv;have ajK:=O (show base<=x3.heap.size from aD pj.o ic.o.size);have ajL:=O (show B<x3.heap.size from cN o9.o ic.o.size);have sJ:=nJ.o;clear hus Yv xD OD;go_wp2_with fail
 rw[<-sJ, <-TV.o];clear a0 a1 a2 a3 a4 a5 a6 a7 a8 a9 jI jJ a12 jH jK jr jY jZ j5 kf a20 a21 sJ;apply V8 (P:=AtJ base x3 B off cs v {p with bF:=us.1} us.2)
 ·intro hJ;have HJ:=O hJ;clear hJ
  refine wp_region_held_drew (S:=(fun U=>U.cell? ⟨B,off,none⟩=some (.pointer (some ⟨v.b,0,none⟩))/\U.cell? ⟨w.heap.size+2,4,none⟩=some (.bool o.aL.o.aF)/\U.cell? ⟨w.heap.size+2,5,none⟩=some (.string o.aL.o.host)/\U.cell? ⟨w.heap.size+2,6,none⟩=some (.int .i64 o.aL.o.port)/\U.cell? ⟨w.heap.size+2,7,none⟩=some (.string o.aL.path)/\U.cell? ⟨w.heap.size,14,none⟩=some (.bool o.proxy))) af (HC.o _ (aA (ae _ _))) ?_
  intro zc;refine tkN 0 12 rfl ?_
  refine tkN 1 13 rfl ?_
  refine tkN 2 14 rfl ?_
  refine tkN 3 15 rfl ?_
  refine tkN 4 16 rfl ?_
  refine tkN 5 17 rfl ?_
  refine tkN 6 18 rfl ?_
  refine tkN 7 19 rfl ?_
  refine tkN 8 20 rfl ?_
  refine tkN 9 21 rfl ?_
  refine tkN 10 22 rfl ?_
  refine tkN 11 23 rfl ?_
  refine EF 12 16 rfl rfl (fun K hK=>?_) fun K hK=>?_
  ·go_simp;refine(HUS.o _ (aA (ae _ _))).mono ?_;rintro e u3 L0;obtain⟨tK,X,rfl,Hg,L5,Ev⟩:=rj.one L0;rw[<-QB.o];have OE:=O tK;have HX:=O (And.intro Hg (And.intro L5 Ev));have wW:Fr (dt v.b v.gv v.wv) x3 u3:=(aA (ae _ _)).trans (by obtain⟨_,_,_,h,_⟩:=tK;exact h);have Bz:=O wW;clear L0 tK Hg L5 Ev wW;refine hK.out _ _ (HC.o _ Bz.o) ?_;intro xz;clear hK zc K
   try simp only[Act.put,sA,sB,sC]
   refine tkN 13 11 rfl ?_
   refine tkN 14 25 rfl ?_
   refine tkN 15 26 rfl ?_
   refine eL 16 rfl fun K hK=>?_;go_simp;obtain⟨n,hne⟩:∃n,n=u3.heap.size:=⟨_,rfl⟩;obtain⟨w4,qF⟩:∃w4,w4=u3.alloc (.cells eS 114):=⟨_,rfl⟩;have Wq:w4.heap[n]?=some (.cells eS 114 (0,0)):=by rw[qF,hne];exact aB _ _
   have kK:Fr (dt v.b v.gv v.wv) x3 w4:=by rw[qF];exact Bz.o.alloc _
   have HZ4:=O Wq;have jV:=O kK;have Oq:=O qF;have CN:=O hne;rw[<-qF, <-hne];clear qF hne Wq kK;refine hK.out _ _ (HC.o _ jV.o) ?_;intro Am;clear hK xz K
   try simp only[Act.put,sA,sB,sC]
   refine eL 17 rfl fun K hK=>?_;refine jX rfl 114 (.tmp 6) (.tmp 25) rfl n X rfl rfl 114 eS HZ4.o (EE HX.o.1) HX.o.1.symm HX.o.2.1 ?_;obtain⟨W,hW⟩:∃W,W=w4.setRow n X:=⟨_,rfl⟩;have Ci:Fr (dt v.b v.gv v.wv) x3 W:=by rw[hW];exact iY jV.o (by rw[CN.o];exact Bz.o.size) _
   have hP:=tu.after (z:=eS) (cZ (aA (ae aR x3)) (eQ (H3.o.dh (aA (ae aR x3))) (A3.o.dh (aA (ae aR x3))) C5.o OE.o)) ajK.o ajL.o (t:=114) ag X;rw[<-Oq.o, <-CN.o, <-hW]at hP;rw[<-hW];refine hK.out _ _ (HC.o _ Ci) ?_;intro FP;clear hK Am K
   try simp only[Act.put,sA,sB,sC]
   refine tkN 18 7 rfl ?_
   clear FP;refine wpAnyH_done af ?_ _;exact HJ.o n X W ⟨hP.1,fun g hg=>by
    obtain⟨r,e1,e2⟩:=HX.o.2.2 g hg;exact⟨r,e1,e2.mono (fun v l h=>hP.2 v l h)⟩⟩
  ·go_simp;obtain⟨n,hne⟩:∃n,n=x3.heap.size:=⟨_,rfl⟩;obtain⟨w4,qF⟩:∃w4,w4=(x3.alloc (.cells eS 114)).drew:=⟨_,rfl⟩;have Wq:w4.heap[n]?=some (.cells eS 114 (0,0)):=by rw[qF,hne];exact aB x3 _
   have kK:Fr aR x3 w4:=by rw[qF];exact((ae _ _).alloc _).drew
   have HZ4:=O Wq;have jV:=O kK;have CN:=O (show x3.heap.size<=n from ab);rw[<-qF, <-hne];clear qF hne Wq kK;refine hK.out _ _ (HC.o _ (jV.o.mono (fun _ _ h=>absurd h id))) ?_;intro xz;clear hK zc K
   try simp only[Act.put,sA,sB,sC]
   refine eL 12 rfl fun K hK=>?_;go_simp;refine(HUS.o _ jV.o).mono ?_;rintro e u3 L0;obtain⟨tK,X,rfl,Hg,L5,Ev⟩:=rj.one L0;rw[<-QB.o];have OE:=O tK;have HX:=O (And.intro Hg (And.intro L5 Ev));have wW:Fr (dt v.b v.gv v.wv) x3 u3:=(jV.o.mono (fun _ _ h=>absurd h id)).trans (by obtain⟨_,_,_,h,_⟩:=tK;exact h)
   have UB:u3.heap[n]?=some (.cells eS 114 (0,0)):=(show Fr (dt v.b v.gv v.wv) w4 u3 by obtain⟨_,_,_,h,_⟩:=tK;exact h).keep HZ4.o (fun hb=>by have:=H3.o.jh (Or.inl hb);have:=CN.o;omega);have Bz:=O wW;have HZ3:=O UB;clear L0 tK Hg L5 Ev wW UB;refine hK.out _ _ (HC.o _ Bz.o) ?_;intro Am;clear hK xz K
   try simp only[Act.put,sA,sB,sC]
   refine tkN 13 11 rfl ?_
   refine tkN 14 25 rfl ?_
   refine tkN 15 26 rfl ?_
   refine eL 17 rfl fun K hK=>?_;refine jX rfl 114 (.tmp 6) (.tmp 25) rfl n X rfl rfl 114 eS HZ3.o (EE HX.o.1) HX.o.1.symm HX.o.2.1 ?_;obtain⟨W,hW⟩:∃W,W=u3.setRow n X:=⟨_,rfl⟩;have Ci:Fr (dt v.b v.gv v.wv) x3 W:=by rw[hW];exact iY Bz.o CN.o _
   have hP:=tu.before H3.o jV.o CN.o HZ4.o (eQ (H3.o.dh jV.o) (A3.o.dh jV.o) C5.o OE.o) ajK.o ajL.o ag X;rw[<-hW]at hP;rw[<-hW];refine hK.out _ _ (HC.o _ Ci) ?_;intro FP;clear hK Am K
   try simp only[Act.put,sA,sB,sC]
   refine tkN 18 7 rfl ?_
   clear FP;refine wpAnyH_done af ?_ _;exact HJ.o n X W ⟨hP.1,fun g hg=>by
    obtain⟨r,e1,e2⟩:=HX.o.2.2 g hg;exact⟨r,e1,e2.mono (fun v l h=>hP.2 v l h)⟩⟩
 ·intro n X W hj;obtain⟨⟨v1,i1,f1,Ch,Wr,hX,Ws,V9⟩,He⟩:=hj;have aa1:=iu A3.o Wr;have o1:=eH H3.o f1 KO.o jo ab;have r1:=eH H3.o f1 KR.o dH ab;have q1:=eH H3.o f1 HQ3.o G' ab;have haW:Fr aR a W:=Sr.o.step f1 (fun k hk hp=>by
   rcases hp with rfl|hp
   ·omega
   ·have:=H3.o.nD hp;omega)
  have HTW:=O (Ss.o.fr haW);have I1:=O i1;have F1:=O f1;have FT1:=O Ch;have L7:=O aa1;have O1:=O o1;have R1:=O r1;have Q1:=O q1;have HXB:=O hX;have HNF:=O Ws;have HNA:=O V9;clear i1 f1 Ch aa1 o1 r1 q1 Wr hX Ws V9 HUS HC haW;cases GL:us.2 with
  |error k =>
   have hef:ev=.iface 105 (.int .i64 k):=by rw[QB.o,GL];rfl
   have HR:=O (show iw p (o.dS hs)=({p with bF:=us.1},rep 2)by
    unfold iw;rw[show vQ p.bF (o.dS hs).o (o.dS hs).proxy (o.dS hs).path=(us.1,.error k)from by rw[<-GL];exact HUE.o.symm])
   have HP:=O (show di base w B cs off v {p with bF:=us.1} W from cZ ic.o ⟨v1,I1.o,F1.o,FT1.o,L7.o.eI⟩);rw[hef];clear He GL QB HUE hef;go_wp2_with (first|((with_reducible refine cV 30 ?_);refine aE rfl 30 (.tmp 4) (.tmp 29) rfl (w.heap.size+1) #[.int .i64 2,.string ⟨#[]⟩,.int .i64 0] rfl rfl _ bR R1.o (bd _ rfl) rfl ct ?_)|fail)
   refine aS (bu bC _ _ (w.heap.size+1) 30 #[.int .i64 2,.string ⟨#[]⟩,.int .i64 0] (0,0) _ rfl (aX _ (w.heap.size+1) _ _ _ _ R1.o) underlying30 rfl (bd _ rfl)) rfl ?_;unfold eF;rw[HR.o];exact⟨rfl,dw HP.o pj.o o9.o (bU _) R1.o eK ag _⟩
  |ok g =>
   have hef:ev=.nilIface:=by rw[QB.o,GL];rfl
   obtain⟨r,Ym,hr⟩:=He g GL;have hgs:VV g:=(LP (P:=VV) (fun g h=>h) HSM.o.bF).2 g (by rw[<-HUE.o];exact GL);have Wt:=O (show iw p (o.dS hs)=(match qL g (o.dS hs)with|none=>({p with bF:=vw us.1 g.o g.proxy g.a.aK},rep 2)|some s=>({p with bF:=us.1},⟨1,s,0⟩))by
    unfold iw;rw[show vQ p.bF (o.dS hs).o (o.dS hs).proxy (o.dS hs).path=(us.1,.ok g)from by rw[<-GL];exact HUE.o.symm];rfl)
   obtain⟨q1,q2,q3,q4,q5,q6,q7⟩:=hr;obtain⟨e1,e2,e3,e4,e5,e6,e7,Bn⟩:=q5;obtain⟨ad,cd,xV⟩:=Bn.rd.form;obtain⟨ap,cp,Ny⟩:=q7.rd.form
   have vt:X= #[.bool g.o.aF,.string g.o.host,.int .i64 g.o.port,.bool g.proxy,.string g.user,.string g.pass,.int .i64 g.a.scheme,.string g.a.aK,.string g.a.bq,.string g.a.cj,.bool g.a.cy,.string g.a.eE,.bool g.a.cM,.slice ad g.a.dom.length cd,.int .i64 g.count,.slice ap g.paths.length cp]:=by
    rw[Ym];unfold aP.cells;rw[q1,q2,q3,q4,q6,e1,e2,e3,e4,e5,e6,e7,xV,Ny]
   rw[vt]at HXB;have Sv:=HXB.o;have hqn:=Q1.o;have hon:=O1.o;have HGS:=O hgs;have ZU:=O hgs.2.1;have ZP:=O hgs.2.2;have TS:=HF.o;rw[hef];clear He GL QB HUE hef q1 q2 q3 q4 q6 q7 e1 e2 e3 e4 e5 e6 e7 Bn xV Ny vt Ym hgs;have z4:W.cell? ⟨n,4,none⟩=some (.string g.user):=by simp[World.cell?,Sv]
   have z5:W.cell? ⟨n,5,none⟩=some (.string g.pass):=by simp[World.cell?,Sv]
   have z6:W.cell? ⟨n,6,none⟩=some (.int .i64 g.a.scheme):=by simp[World.cell?,Sv]
   by_cases hsc:g.a.scheme=1
   ·have t6':(g.a.scheme==1)=true:=by rw[hsc];rfl
    cases y_:qL g (o.dS hs)with
    |none =>
     have HR:=O (show iw p (o.dS hs)=({p with bF:=vw us.1 g.o g.proxy g.a.aK},rep 2)by rw[Wt.o,y_]);have HBA:=O (show∀U,Calls prog 49 #[.agg #[.string g.user,.string g.pass]] U _ from fun U=>OA hsc y_ (aD ZU.o ag) (aD ZP.o ag));have Yu:=O hsc;rw[hsc]at z6;clear y_ Wt hsc Sv hqn hon TS;go_wp2_with fail
     refine(HBA.o _).mono ?_;rintro e u5⟨⟨et,evv,rfl⟩,lG⟩;have HU:=O (lG)
     have UJ:=O (show∀U,Fr (dt v1.b v1.gv v1.wv) u5 U->(U.cell? ⟨B,off,none⟩=some (.pointer (some ⟨v1.b,0,none⟩))/\U.cell? ⟨n,0,none⟩=some (.bool g.o.aF)/\U.cell? ⟨n,1,none⟩=some (.string g.o.host)/\U.cell? ⟨n,2,none⟩=some (.int .i64 g.o.port)/\U.cell? ⟨n,3,none⟩=some (.bool g.proxy)/\U.cell? ⟨n,7,none⟩=some (.string g.a.aK))from fun U hU=>by
      have j1:=(L7.o.dh HU.o).fr hU (fun hb=>I1.o.fg L7.o.eI ag (Or.inl hb));have j2:=hU.keep (HU.o.keep HXB.o id) (fun hb=>HNF.o (Or.inl hb));refine⟨j1.cell0,?_,?_,?_,?_,?_⟩<;>simp[World.cell?,j2])
     have TG:=O (show∀U,Fr aR u5 U->Calls prog 53 #[.pointer (some ⟨v1.b,0,none⟩),.agg #[.bool g.o.aF,.string g.o.host,.int .i64 g.o.port],.bool g.proxy,.string g.a.aK] U (wR base U v1.b v1.gv v1.wv us.1 p.waits (mZ g.o g.proxy g.a.aK))from fun U hU=>zX base U v1.b v1.gv v1.wv us.1 p.waits g.o g.proxy g.a.aK ((I1.o.dh HU.o).dh hU).oC);go_wp2_with fail
     go_region_held3 (fun U=>Fr (dt v1.b v1.gv v1.wv) u5 U/\U.cell? ⟨B,off,none⟩=some (.pointer (some ⟨v1.b,0,none⟩))/\U.cell? ⟨n,0,none⟩=some (.bool g.o.aF)/\U.cell? ⟨n,1,none⟩=some (.string g.o.host)/\U.cell? ⟨n,2,none⟩=some (.int .i64 g.o.port)/\U.cell? ⟨n,3,none⟩=some (.bool g.proxy)/\U.cell? ⟨n,7,none⟩=some (.string g.a.aK)) ((refine(fun hU=>⟨hU,UJ.o _ hU⟩) ?_;first|exact aA (ae _ _)|assumption))
      ((first
       |(go_at_call 53;refine(TG.o _ (aA (ae _ _))).mono ?_;rintro e u9 ⟨rfl,OG⟩;have Wu:Fr (dt v1.b v1.gv v1.wv) u5 u9:=(aA (ae _ _)).trans (by obtain⟨_,_,_,h,_⟩:=OG;exact h))))
     have Wv:=eQ ((I1.o.dh HU.o).dh (aA (ae aR u5))) ((L7.o.dh HU.o).dh (aA (ae aR u5))) (I1.o.fg L7.o.eI ag) OG;have HP:=O (show di base w B cs off v {p with bF:=vw us.1 g.o g.proxy g.a.aK} u9 from cZ ic.o (gK F1.o FT1.o (cZ HU.o (cZ (aA (ae aR u5)) Wv))));have r9:=O (eH (B:=B) (I1.o.dh HU.o) (Wu.mono (fun k _ hk=>Or.inr (Or.inl hk))) (HU.o.keep R1.o id) dH ab);clear Wv OG Wu UJ TG
     go_wp2_with (first|((with_reducible refine cV 30 ?_);refine aE rfl 30 (.tmp 4) (.tmp 74) rfl (w.heap.size+1) #[.int .i64 2,.string ⟨#[]⟩,.int .i64 0] rfl rfl _ bR r9.o (bd _ rfl) rfl ct ?_)|fail)
     refine aS (bu bC _ _ (w.heap.size+1) 30 #[.int .i64 2,.string ⟨#[]⟩,.int .i64 0] (0,0) _ rfl (aX _ (w.heap.size+1) _ _ _ _ r9.o) underlying30 rfl (bd _ rfl)) rfl ?_;unfold eF;rw[HR.o];exact⟨rfl,dw HP.o pj.o o9.o (bU _) r9.o eK ag _⟩
    |some s =>
     have HR:=O (show iw p (o.dS hs)=({p with bF:=us.1},⟨1,s,0⟩)by rw[Wt.o,y_]);have HBA:=O (show∀U,Calls prog 49 #[.agg #[.string g.user,.string g.pass]] U _ from fun U=>OB hsc y_ (aD ZU.o ag) (aD ZP.o ag));have Yu:=O hsc;rw[hsc]at z6;clear y_ Wt hsc Sv hqn hon TS;go_wp2_with fail
     refine(HBA.o _).mono ?_;rintro e u5⟨rfl,lG⟩;have HU:=O (lG);have HP:=O (show di base w B cs off v {p with bF:=us.1} u5 from cZ ic.o (di.then ⟨v1,I1.o,F1.o,FT1.o,L7.o.eI⟩ HU.o));have r9:=O (HU.o.keep R1.o id)
     go_wp2_with (first|((with_reducible refine cV 30 ?_);refine aE rfl 30 (.tmp 4) (.tmp 76) rfl (w.heap.size+1) #[.int .i64 1,.string s,.int .i64 0] rfl rfl _ bR r9.o (bd _ rfl) rfl ct ?_)|fail)
     refine aS (bu bC _ _ (w.heap.size+1) 30 #[.int .i64 1,.string s,.int .i64 0] (0,0) _ rfl (aX _ (w.heap.size+1) _ _ _ _ r9.o) underlying30 rfl (bd _ rfl)) rfl ?_;unfold eF;rw[HR.o];exact⟨rfl,dw HP.o pj.o o9.o (bU _) r9.o eK ag _⟩
   ·have t6':(g.a.scheme==1)=false:=aN.2 hsc
    have HC8:=O (show∀U,Fr aR W U->(U.cell? ⟨n,4,none⟩=some (.string g.user)/\U.cell? ⟨n,5,none⟩=some (.string g.pass)/\U.cell? ⟨n,6,none⟩=some (.int .i64 g.a.scheme)/\U.cell? ⟨n,7,none⟩=some (.string g.a.aK)/\U.cell? ⟨n,8,none⟩=some (.string g.a.bq)/\U.cell? ⟨n,9,none⟩=some (.string g.a.cj)/\U.cell? ⟨n,10,none⟩=some (.bool g.a.cy)/\U.cell? ⟨n,11,none⟩=some (.string g.a.eE)/\U.cell? ⟨n,12,none⟩=some (.bool g.a.cM)/\U.cell? ⟨n,13,none⟩=some (.slice ad g.a.dom.length cd)/\U.cell? ⟨n,14,none⟩=some (.int .i64 g.count)/\U.cell? ⟨w.heap.size+2,4,none⟩=some (.bool o.aL.o.aF)/\U.cell? ⟨w.heap.size+2,5,none⟩=some (.string o.aL.o.host)/\U.cell? ⟨w.heap.size+2,6,none⟩=some (.int .i64 o.aL.o.port)/\U.cell? ⟨w.heap.size+2,7,none⟩=some (.string o.aL.path)/\U.cell? ⟨w.heap.size+2,8,none⟩=some (.string o.aL.query)/\U.cell? ⟨w.heap.size+2,9,none⟩=some (.string o.aL.method)/\U.cell? ⟨w.heap.size+2,12,none⟩=some (.string o.aL.body)/\U.cell? ⟨w.heap.size,18,none⟩=some (.string o.bP))from fun U hU=>by
     have j2:=hU.keep HXB.o id;have j3:=hU.keep Q1.o id;obtain⟨a0,a1,a2,a3,a4,a5,a6,a7,a8,a9,jI,jJ,a12,jH,jK,jr,jY,jZ,j5,kf,a20,a21⟩:=eh (hU.keep O1.o id) lS.o;refine⟨?_,?_,?_,?_,?_,?_,?_,?_,?_,?_,?_,?_,?_,?_,?_,?_,?_,?_,j5⟩<;>simp[World.cell?,j2,j3])
    have HME:=O (show∀U,Calls prog 51 #[.string o.aL.method] U _ from fun U=>yn o.aL.method U (iK HF.o.method ag));have HTG:=O (show∀U,Calls prog 52 #[.agg #[.bool o.aL.o.aF,.string o.aL.o.host,.int .i64 o.aL.o.port,.string o.aL.path,.string o.aL.query]] U _ from fun U=>NW o.aL.o o.aL.path o.aL.query U (iK HF.o.path ag) (iK HF.o.query ag))
    have AP:=O (show∀U,Fr aR W U->Calls prog 50 #[.agg #[.int .i64 g.a.scheme,.string g.a.aK,.string g.a.bq,.string g.a.cj,.bool g.a.cy,.string g.a.eE,.bool g.a.cM,.slice ad g.a.dom.length cd],.agg #[.string g.user,.string g.pass],.string (jM o.aL.method),.string (nK o.aL.path o.aL.query),.string o.aL.body,.string o.bP,.int .i64 g.count] U (o8 g.a.scheme g.a.cj ((o.dS hs).Z3 g) g.count U)from fun U hU=>Wm (o:=o.dS hs) rfl HGS.o (Sp _ HF.o.method) (Sq _ _ HF.o.path HF.o.query) HF.o.body HF.o.bP (HTW.o.fr hU))
    cases y_:qL g (o.dS hs)with
    |none =>
     have HR:=O (show iw p (o.dS hs)=({p with bF:=vw us.1 g.o g.proxy g.a.aK},rep 2)by rw[Wt.o,y_]);have JP:=O y_;have Yu:=O hsc;clear y_ Wt Sv hqn hon TS hsc;go_wp2_with fail
     go_region_held3 (fun U=>Fr aR W U/\U.cell? ⟨n,4,none⟩=some (.string g.user)/\U.cell? ⟨n,5,none⟩=some (.string g.pass)/\U.cell? ⟨n,6,none⟩=some (.int .i64 g.a.scheme)/\U.cell? ⟨n,7,none⟩=some (.string g.a.aK)/\U.cell? ⟨n,8,none⟩=some (.string g.a.bq)/\U.cell? ⟨n,9,none⟩=some (.string g.a.cj)/\U.cell? ⟨n,10,none⟩=some (.bool g.a.cy)/\U.cell? ⟨n,11,none⟩=some (.string g.a.eE)/\U.cell? ⟨n,12,none⟩=some (.bool g.a.cM)/\U.cell? ⟨n,13,none⟩=some (.slice ad g.a.dom.length cd)/\U.cell? ⟨n,14,none⟩=some (.int .i64 g.count)/\U.cell? ⟨w.heap.size+2,4,none⟩=some (.bool o.aL.o.aF)/\U.cell? ⟨w.heap.size+2,5,none⟩=some (.string o.aL.o.host)/\U.cell? ⟨w.heap.size+2,6,none⟩=some (.int .i64 o.aL.o.port)/\U.cell? ⟨w.heap.size+2,7,none⟩=some (.string o.aL.path)/\U.cell? ⟨w.heap.size+2,8,none⟩=some (.string o.aL.query)/\U.cell? ⟨w.heap.size+2,9,none⟩=some (.string o.aL.method)/\U.cell? ⟨w.heap.size+2,12,none⟩=some (.string o.aL.body)/\U.cell? ⟨w.heap.size,18,none⟩=some (.string o.bP)) ((refine(fun hU=>⟨hU,HC8.o _ hU⟩) ?_;first|exact aA (ae _ _)|assumption))
      ((first
       |(go_at_call 51;refine(HME.o _).mono ?_;rintro e u5 ⟨rfl,lG⟩;have ur:Fr aR W u5:=(by first|exact Ww.trans lG|exact(aA (ae aR W)).trans lG))
       |(go_at_call 52;refine(HTG.o _).mono ?_;rintro e u6 ⟨rfl,nF⟩;have Ww:Fr aR W u6:=(by first|exact ur.trans nF|exact(aA (ae aR W)).trans nF))
       |(go_at_call 50;refine(AP.o _ jA).mono ?_;rintro e u7 Rf;obtain⟨⟨et,evv,rfl⟩,nI⟩:=Wn Yu.o JP.o Rf;have L_:Fr aR W u7:=(by first|exact Ww.trans nI|exact ur.trans nI))))
     all_goals as_aux_lemma =>
      have HU:=O (L_);have UJ:=O (show∀U,Fr (dt v1.b v1.gv v1.wv) u7 U->(U.cell? ⟨B,off,none⟩=some (.pointer (some ⟨v1.b,0,none⟩))/\U.cell? ⟨n,0,none⟩=some (.bool g.o.aF)/\U.cell? ⟨n,1,none⟩=some (.string g.o.host)/\U.cell? ⟨n,2,none⟩=some (.int .i64 g.o.port)/\U.cell? ⟨n,3,none⟩=some (.bool g.proxy)/\U.cell? ⟨n,7,none⟩=some (.string g.a.aK))from fun U hU=>by
       have j1:=(L7.o.dh HU.o).fr hU (fun hb=>I1.o.fg L7.o.eI ag (Or.inl hb));have j2:=hU.keep (HU.o.keep HXB.o id) (fun hb=>HNF.o (Or.inl hb));refine⟨j1.cell0,?_,?_,?_,?_,?_⟩<;>simp[World.cell?,j2])
      have TG:=O (show∀U,Fr aR u7 U->Calls prog 53 #[.pointer (some ⟨v1.b,0,none⟩),.agg #[.bool g.o.aF,.string g.o.host,.int .i64 g.o.port],.bool g.proxy,.string g.a.aK] U (wR base U v1.b v1.gv v1.wv us.1 p.waits (mZ g.o g.proxy g.a.aK))from fun U hU=>zX base U v1.b v1.gv v1.wv us.1 p.waits g.o g.proxy g.a.aK ((I1.o.dh HU.o).dh hU).oC);go_wp2_with fail
      go_region_held3 (fun U=>Fr (dt v1.b v1.gv v1.wv) u7 U/\U.cell? ⟨B,off,none⟩=some (.pointer (some ⟨v1.b,0,none⟩))/\U.cell? ⟨n,0,none⟩=some (.bool g.o.aF)/\U.cell? ⟨n,1,none⟩=some (.string g.o.host)/\U.cell? ⟨n,2,none⟩=some (.int .i64 g.o.port)/\U.cell? ⟨n,3,none⟩=some (.bool g.proxy)/\U.cell? ⟨n,7,none⟩=some (.string g.a.aK)) ((refine(fun hU=>⟨hU,UJ.o _ hU⟩) ?_;first|exact aA (ae _ _)|assumption))
       ((first
        |(go_at_call 53;refine(TG.o _ (aA (ae _ _))).mono ?_;rintro e u9 ⟨rfl,OG⟩;have Wu:Fr (dt v1.b v1.gv v1.wv) u7 u9:=(aA (ae _ _)).trans (by obtain⟨_,_,_,h,_⟩:=OG;exact h))))
      have Wv:=eQ ((I1.o.dh HU.o).dh (aA (ae aR u7))) ((L7.o.dh HU.o).dh (aA (ae aR u7))) (I1.o.fg L7.o.eI ag) OG;have HP:=O (show di base w B cs off v {p with bF:=vw us.1 g.o g.proxy g.a.aK} u9 from cZ ic.o (gK F1.o FT1.o (cZ HU.o (cZ (aA (ae aR u7)) Wv))));have r9:=O (eH (B:=B) (I1.o.dh HU.o) (Wu.mono (fun k _ hk=>Or.inr (Or.inl hk))) (HU.o.keep R1.o id) dH ab);clear Wv OG Wu UJ TG
      go_wp2_with (first|((with_reducible refine cV 30 ?_);refine aE rfl 30 (.tmp 4) (.tmp 74) rfl (w.heap.size+1) #[.int .i64 2,.string ⟨#[]⟩,.int .i64 0] rfl rfl _ bR r9.o (bd _ rfl) rfl ct ?_)|fail)
      refine aS (bu bC _ _ (w.heap.size+1) 30 #[.int .i64 2,.string ⟨#[]⟩,.int .i64 0] (0,0) _ rfl (aX _ (w.heap.size+1) _ _ _ _ r9.o) underlying30 rfl (bd _ rfl)) rfl ?_;unfold eF;rw[HR.o];exact⟨rfl,dw HP.o pj.o o9.o (bU _) r9.o eK ag _⟩
    |some s =>
     have HR:=O (show iw p (o.dS hs)=({p with bF:=us.1},⟨1,s,0⟩)by rw[Wt.o,y_]);have JP:=O y_;have Yu:=O hsc;clear y_ Wt Sv hqn hon TS hsc;go_wp2_with fail
     go_region_held3 (fun U=>Fr aR W U/\U.cell? ⟨n,4,none⟩=some (.string g.user)/\U.cell? ⟨n,5,none⟩=some (.string g.pass)/\U.cell? ⟨n,6,none⟩=some (.int .i64 g.a.scheme)/\U.cell? ⟨n,7,none⟩=some (.string g.a.aK)/\U.cell? ⟨n,8,none⟩=some (.string g.a.bq)/\U.cell? ⟨n,9,none⟩=some (.string g.a.cj)/\U.cell? ⟨n,10,none⟩=some (.bool g.a.cy)/\U.cell? ⟨n,11,none⟩=some (.string g.a.eE)/\U.cell? ⟨n,12,none⟩=some (.bool g.a.cM)/\U.cell? ⟨n,13,none⟩=some (.slice ad g.a.dom.length cd)/\U.cell? ⟨n,14,none⟩=some (.int .i64 g.count)/\U.cell? ⟨w.heap.size+2,4,none⟩=some (.bool o.aL.o.aF)/\U.cell? ⟨w.heap.size+2,5,none⟩=some (.string o.aL.o.host)/\U.cell? ⟨w.heap.size+2,6,none⟩=some (.int .i64 o.aL.o.port)/\U.cell? ⟨w.heap.size+2,7,none⟩=some (.string o.aL.path)/\U.cell? ⟨w.heap.size+2,8,none⟩=some (.string o.aL.query)/\U.cell? ⟨w.heap.size+2,9,none⟩=some (.string o.aL.method)/\U.cell? ⟨w.heap.size+2,12,none⟩=some (.string o.aL.body)/\U.cell? ⟨w.heap.size,18,none⟩=some (.string o.bP)) ((refine(fun hU=>⟨hU,HC8.o _ hU⟩) ?_;first|exact aA (ae _ _)|assumption))
      ((first
       |(go_at_call 51;refine(HME.o _).mono ?_;rintro e u5 ⟨rfl,lG⟩;have ur:Fr aR W u5:=(by first|exact Ww.trans lG|exact(aA (ae aR W)).trans lG))
       |(go_at_call 52;refine(HTG.o _).mono ?_;rintro e u6 ⟨rfl,nF⟩;have Ww:Fr aR W u6:=(by first|exact ur.trans nF|exact(aA (ae aR W)).trans nF))
       |(go_at_call 50;refine(AP.o _ jA).mono ?_;rintro e u7 Rf;obtain⟨rfl,nI⟩:=Wo Yu.o JP.o Rf;have L_:Fr aR W u7:=(by first|exact Ww.trans nI|exact ur.trans nI))))
     all_goals as_aux_lemma =>
      have HU:=O (L_);have HP:=O (show di base w B cs off v {p with bF:=us.1} u7 from cZ ic.o (di.then ⟨v1,I1.o,F1.o,FT1.o,L7.o.eI⟩ HU.o));have r9:=O (HU.o.keep R1.o id);go_wp2_with (first|((with_reducible refine cV 30 ?_);refine aE rfl 30 (.tmp 4) (.tmp 76) rfl (w.heap.size+1) #[.int .i64 1,.string s,.int .i64 0] rfl rfl _ bR r9.o (bd _ rfl) rfl ct ?_)|fail)
      refine aS (bu bC _ _ (w.heap.size+1) 30 #[.int .i64 1,.string s,.int .i64 0] (0,0) _ rfl (aX _ (w.heap.size+1) _ _ _ _ r9.o) underlying30 rfl (bd _ rfl)) rfl ?_;unfold eF;rw[HR.o];exact⟨rfl,dw HP.o pj.o o9.o (bU _) r9.o eK ag _⟩
structure rp where
 o:jG
 hs:List gZ
 sp:Value
def o_(r:kx):List Value:=[.int .i64 r.what,.string r.head,.int .i64 r.cert]
def lj(f:Nat->Nat->Int):List Value:=[.int .i64 (f 0 0),.int .i64 (f 0 1),.int .i64 (f 0 2),.int .i64 (f 0 3),.int .i64 (f 1 0),.int .i64 (f 1 1),.int .i64 (f 1 2),.int .i64 (f 1 3),.int .i64 (f 2 0),.int .i64 (f 2 1),.int .i64 (f 2 2),.int .i64 (f 2 3),.int .i64 (f 3 0),.int .i64 (f 3 1),.int .i64 (f 3 2),.int .i64 (f 3 3)]
def mX(x:vd)(v:rp):List Value:=.int .i64 x.does :: (v.o.cells++(.int .i64 x.fails :: .int .i64 x.gG :: v.sp :: (lj x.num++o_ x.dI)))
theorem qx(x:vd)(v:rp):(mX x v).length=45:=rfl
theorem nE(f:Nat->Nat->Int):(lj f).length=16:=rfl
theorem QE(f:Nat->Nat->Int)(hp:p<4)(hi:i<4):(lj f)[p*4+i]?=some (.int .i64 (f p i)):=by
 rcases(show p=0\/p=1\/p=2\/p=3 from ab)with rfl|rfl|rfl|rfl<;>rcases(show i=0\/i=1\/i=2\/i=3 from ab)with rfl|rfl|rfl|rfl<;>rfl
structure gu (U:World) (T B:Nat) (g:Nat->rp) (sv:Value) (t:fD):Prop where
 eI:∃cs,U.heap[T]?=some (.cells cs 75 (0,0))/\cs.size=289
 main:U.cell? ⟨T,0,none⟩=some (.pointer (some ⟨B,0,none⟩))
 num:U.rangeAt T 1 (lj t.num)
 tab:∀n,n<6->U.rangeAt T (17+n*45) (mX (t.tab n) (g n))
 steps:U.cell? ⟨T,287,none⟩=some (.int .i64 t.steps)
 st:U.cell? ⟨T,288,none⟩=some sv
section
variable {U U' : World} {T B : Nat} {g : Nat → rp} {sv : Value} {t : fD}
theorem nZ{p:Addr}(h:w.cell? p=some u)(hf:Fr S w U)(hn:¬S p.block):U.cell? p=some u:=by
 unfold World.cell? at h ⊢;cases hb:w.heap[p.block]? with
 |none=>rw[hb]at h;cases h
 |some o=>rw[hb]at h;rw[hf.keep hb hn];exact h
theorem p_(h:w.rangeAt b o cs)(hf:Fr S w U)(hn:¬S b):U.rangeAt b o cs:=fun j v hv=>nZ (h j v hv) hf hn
theorem gu.fr(h:gu U T B g sv t)(hf:Fr S U U')(hn:¬S T):gu U' T B g sv t:=by
 obtain⟨cs,hb,hs⟩:=h.eI;exact⟨⟨cs,hf.keep hb hn,hs⟩,nZ h.main hf hn,p_ h.num hf hn,fun n hl=>p_ (h.tab n hl) hf hn,nZ h.steps hf hn,nZ h.st hf hn⟩
theorem gu.lt(h:gu U T B g sv t):T<U.heap.size:=by obtain⟨cs,hb,_⟩:=h.eI;exact bj hb
theorem gu.there(h:gu U T B g sv t)(hn:o+n<=289):U.there T o n:=by
 obtain⟨cs,hb,hs⟩:=h.eI;intro j hj;have hl:o+j<cs.size:=ab;exact⟨by simp[World.cell?,hb,hl],by simp[World.frozen?,hb]⟩
theorem gu.free(h:gu U T B g sv t)(k:Nat):U.frozen? ⟨T,k,none⟩=false:=by
 obtain⟨cs,hb,_⟩:=h.eI;simp[World.frozen?,hb]
theorem lR(T:Nat)(ty:TypeId)(n:Nat):∀(vs:List Value) (o:Nat) (U:World),(∃cs,U.heap[T]?=some (.cells cs ty (0,0))/\cs.size=n)->∃cs,(U.setCells T o vs).heap[T]?=some (.cells cs ty (0,0))/\cs.size=n
 |[],_,_,h=>h
 |v :: r,o,U,⟨cs,hb,hs⟩=>by
  rw[World.setCells];exact lR T ty n r (o+1) _ ⟨_,b_ hb o v,by simpa using hs⟩
theorem mJ{a:World}(T:Nat):∀(vs:List Value) (o:Nat) (U:World),Fr (one T) a U->Fr (one T) a (U.setCells T o vs)
 |[],_,_,h=>h
 |v :: r,o,U,h=>by
  rw[World.setCells];exact mJ T r (o+1) _ (h.setCell (p:=⟨T,o,none⟩) (fun _=>rfl) v)
theorem eT{k:Nat}{vs:List Value}(h:U.cell? ⟨T,k,none⟩=some u)(Y3:k<o\/o+vs.length<=k):(U.setCells T o vs).cell? ⟨T,k,none⟩=some u:=by
 rw[World.cell?_setCells_out T vs o U ⟨T,k,none⟩ (fun _ _=>Y3)];exact h
theorem gu.OK(h:gu U T B g sv t)(hn:n<6)(x:vd)(v:rp):gu (U.setCells T (17+n*45) (mX x v)) T B (fun i=>if i=n then v else g i) sv (t.put n x)/\Fr (one T) U (U.setCells T (17+n*45) (mX x v)):=by
 have hl:=qx x v;refine⟨⟨lR T _ _ _ _ _ h.eI,eT h.main (Or.inl ab),bX h.num _ _ _ (Or.inr (Or.inl (by rw[nE];omega))),fun m hm=>?_,eT h.steps (Or.inr ab),eT h.st (Or.inr ab)⟩,mJ T _ _ _ (ae _ _)⟩;by_cases e:m=n
 ·subst e;show World.rangeAt _ T (17+m*45) (mX (if m=m then x else t.tab m) (if m=m then v else g m));rw[az rfl,az rfl];exact World.rangeAt_setCells_same _ _ _ _ (h.there (by rw[hl];omega))
 ·show World.rangeAt _ T (17+m*45) (mX (if m=n then x else t.tab m) (if m=n then v else g m));rw[aq e,aq e];exact bX (h.tab m hm) _ _ _ (by
   right;rw[hl,qx];rcases eM m n with q|q
   ·left;omega
   ·right;omega)
theorem Hj{v:Value}(h:U.rangeAt T o cs)(hj:j<cs.length):(U.setCell ⟨T,o+j,none⟩ v).rangeAt T o (cs.set j v):=by
 intro k u hk;have hc:=h j _ (List.getElem?_eq_getElem hj);by_cases e:k=j
 ·subst e;rw[List.getElem?_set_self hj]at hk;cases hk;exact World.cell?_setCell_same' U ⟨T,o+k,none⟩ _ (by rw[hc];rfl)
 ·rw[List.getElem?_set_ne (kY e)]at hk;rw[World.cell?_setCell_other U ⟨T,o+j,none⟩ ⟨T,o+k,none⟩ v (fun q=>e (by injection q with q1 q2;omega))];exact h k u hk
theorem gu.C6(h:gu U T B g sv t)(hn:n<6)(hj:j<45)(v:Value){x:vd}{w:rp}(hx:(mX (t.tab n) (g n)).set j v=mX x w):gu (U.setCell ⟨T,17+n*45+j,none⟩ v) T B (fun i=>if i=n then w else g i) sv (t.put n x)/\Fr (one T) U (U.setCell ⟨T,17+n*45+j,none⟩ v):=by
 have hl:([v]:List Value).length=1:=rfl;refine⟨⟨lR T _ _ [v] _ _ h.eI,eT (vs:=[v]) h.main (Or.inl ab),bX h.num T (17+n*45+j) [v] (Or.inr (Or.inl (by rw[nE];omega))),fun m hm=>?_,eT (vs:=[v]) h.steps (Or.inr ab),eT (vs:=[v]) h.st (Or.inr ab)⟩,mJ T [v] _ _ (ae _ _)⟩;by_cases e:m=n
 ·subst e;show World.rangeAt _ T (17+m*45) (mX (if m=m then x else t.tab m) (if m=m then w else g m));rw[az rfl,az rfl, <-hx];exact Hj (h.tab m hm) (by rw[qx];exact hj)
 ·show World.rangeAt _ T (17+m*45) (mX (if m=n then x else t.tab m) (if m=n then w else g m));rw[aq e,aq e];exact bX (h.tab m hm) T (17+n*45+j) [v] (by
   right;rw[hl,qx];rcases eM m n with q|q
   ·left;omega
   ·right;omega)
theorem gu.EJ(h:gu U T B g sv t)(k:Int):gu (U.setCell ⟨T,287,none⟩ (.int .i64 k)) T B g sv {t with steps:=k}/\Fr (one T) U (U.setCell ⟨T,287,none⟩ (.int .i64 k)):=by
 refine⟨⟨lR T _ _ [_] _ _ h.eI,eT (vs:=[_]) h.main (Or.inl ag),bX h.num T 287 [_] (Or.inr (Or.inl (by rw[nE];decide))),fun m hm=>bX (h.tab m hm) T 287 [_] (Or.inr (Or.inl (by rw[qx];omega))),?_,eT (vs:=[_]) h.st (Or.inr (ay _))⟩,mJ T [_] _ _ (ae _ _)⟩;exact World.cell?_setCell_same' U ⟨T,287,none⟩ _ (by rw[h.steps];rfl)
theorem gu.WL(h:gu U T B g sv t)(v:Value)(s:List xK):gu (U.setCell ⟨T,288,none⟩ v) T B g v {t with cX:=s}/\Fr (one T) U (U.setCell ⟨T,288,none⟩ v):=by
 refine⟨⟨lR T _ _ [_] _ _ h.eI,eT (vs:=[_]) h.main (Or.inl ag),bX h.num T 288 [_] (Or.inr (Or.inl (by rw[nE];decide))),fun m hm=>bX (h.tab m hm) T 288 [_] (Or.inr (Or.inl (by rw[qx];omega))),eT (vs:=[_]) h.steps (Or.inl ag),?_⟩,mJ T [_] _ _ (ae _ _)⟩;exact World.cell?_setCell_same' U ⟨T,288,none⟩ _ (by rw[h.st];rfl)
theorem gu.afe(h:gu U T B g sv t)(hp:p<4)(hi:i<4)(v:Int){f:Nat->Nat->Int}(hf:(lj t.num).set (p*4+i) (.int .i64 v)=lj f):gu (U.setCell ⟨T,1+(p*4+i),none⟩ (.int .i64 v)) T B g sv {t with num:=f}/\Fr (one T) U (U.setCell ⟨T,1+(p*4+i),none⟩ (.int .i64 v)):=by
 refine⟨⟨lR T _ _ [_] _ _ h.eI,eT (vs:=[_]) h.main (Or.inl ab),?_,fun m hm=>bX (h.tab m hm) T (1+(p*4+i)) [_] (Or.inr (Or.inr (by show 1+(p*4+i)+1<=_;omega))),eT (vs:=[_]) h.steps (Or.inr (by show 1+(p*4+i)+1<=_;omega)),eT (vs:=[_]) h.st (Or.inr (by show 1+(p*4+i)+1<=_;omega))⟩,mJ T [_] _ _ (ae _ _)⟩;show World.rangeAt _ T 1 (lj f);rw[<-hf];exact Hj h.num (by rw[nE];omega)
end
