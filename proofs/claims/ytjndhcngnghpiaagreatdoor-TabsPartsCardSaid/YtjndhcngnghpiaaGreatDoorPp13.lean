/- Lemmas for the law's walk. -/
import Derived.Test.YtjndhcngnghpiaaGreatDoorPp12
set_option maxRecDepth 100000
set_option maxHeartbeats 16000000
set_option linter.unusedSimpArgs false
namespace Go.Proofs.YtjndhcngnghpiaaGreatDoor
open Go.Proofs.Tryz
open Go.RowKit
variable {base b c k g:Nat} {w:World} {a:fi} {r n:Bs} {v:Value} {ps:List jn} {p:jn}
def yZ(ws:List (bL bG))(m:bL bG):List (bL bG) :=
 let l:=(lR m.o m.proxy ws).1++[m]
 l.drop (l.length-8)
theorem Tx(ws:List (bL bG))(m:bL bG):(yZ ws m).length<=8:=by
 unfold yZ;simp only[bJ];omega
def Fb(base:Nat)(w:World)(b:Nat)(gv wv:Value)(gs:List (aU bG))(ws:List (bL bG))(e:Ending)(w':World):Prop :=
 e=.returned (.tuple #[])/\kp base w b gv wv gs ws w'
theorem Mc{base:Nat}{w3 w4:World}{b:Nat}{gv wv:Value}{gs:List (aU bG)}{fs:List (bL bG)}{m:bL bG}{r3:bL Value}{rs:List (bL Value)}{gg cap:Nat}(h3:dC base w3 b gv wv gs fs)
  (ho:OwnRows base 129 13 w3 wv (rs.map bL.cells))(jX:ld (bL.Reads (df base w3)) rs fs)(rf:bL.Reads (df base w3) r3 m)(qq:∀u∈r3.cells,u.oneCell'=true)(kH:Fr (own wv) w3 w4)
  (eV:w4.ownsRow base 129 13 (.slice (some ⟨gg,0,none⟩) (fs.length+1) cap) (fs.length+1) ((rs.map bL.cells).flatten++r3.cells))(dT:wv.ownBlock=some gg\/w3.heap.size<=gg) :
  dC base (w4.setCell ⟨b,1,none⟩ (.slice (some ⟨gg,0,none⟩) (fs.length+1) cap)) b gv (.slice (some ⟨gg,0,none⟩) (fs.length+1) cap) gs (fs++[m]) /\
  Fr (dk b gv wv) w3 (w4.setCell ⟨b,1,none⟩ (.slice (some ⟨gg,0,none⟩) (fs.length+1) cap))/\∀k,dk b gv (.slice (some ⟨gg,0,none⟩) (fs.length+1) cap) k->dk b gv wv k\/w3.heap.size<=k:=by
 have kO:=h3.low;have uM:=jX.len;have CS:rJ base w3 (own wv):=ho.off (az _) ag;have uP:ld (bL.Reads (df base w4)) (rs++[r3]) (fs++[m]) :=
  (jX.mono (fun _ _ h=>h.mono (fun _ _ h=>h.fr kH CS))).app (.cons (rf.mono (fun _ _ h=>h.fr kH CS)) .nil)
 have Ba:jY base w4 (.slice (some ⟨gg,0,none⟩) (fs.length+1) cap) (fs++[m]):=by
  refine⟨rs++[r3],⟨?_,?_⟩,uP⟩
  ·intro x hx;rw[bI]at hx;rcases bO.1 hx with hx|hx
   ·exact ho.1 x hx
   ·simp at hx;subst hx;exact⟨rfl,qq⟩
  ·rw[bI,eh,aM,aj,uM];simpa using eV
 have su:=kH.keep h3.eK h3.wb;have qf:g_ base w4 gv gs:=h3.bZ.fr kH CS (fun k hk hg=>h3.gw hk hg);have Sn:Fr (dk b gv wv) w3 w4:=kH.mono (fun _ _ hk=>Or.inr (Or.inr hk));refine⟨dC.abO kO su qf Ba,Sn.setCell (p:=⟨b,1,none⟩) (fun _=>Or.inl rfl) _,?_⟩;rintro k(hk|hk|hk)
 ·exact Or.inl (Or.inl hk)
 ·exact Or.inl (Or.inr (Or.inl hk))
 ·have e:gg=k:=by simpa[own,Value.ownBlock]using hk
  subst e;rcases dT with dT|dT
  ·exact Or.inl (Or.inr (Or.inr dT))
  ·exact Or.inr dT
theorem ni.ret{w':World}{gv wv:Value}{gs:List (aU bG)}{u:List (bL bG)×Option (bL bG)}{e:Ending}(h:ni base w b gv wv gs u e w'):∃v,e=.returned v:=by
 obtain⟨_,h⟩:=h;split at h
 ·exact⟨_,h⟩
 ·obtain⟨r,h,_⟩:=h;exact⟨_,h⟩
theorem Ty{r:bL Value}{n:Nat}(h1:r.a.dom=.slice a n c):∀u∈r.cells,u.oneCell'=true:=by
 intro u hu;simp only[bL.cells,bE,bU,dL]at hu;rcases hu with rfl|rfl|rfl|rfl|rfl|rfl|rfl|rfl|rfl|rfl|rfl|rfl|rfl<;>first|rfl|(rw[h1];rfl)
theorem Me(base:Nat)(w:World)(b:Nat)(gv wv:Value)(gs:List (aU bG))(ws:List (bL bG))(g:bL Value)(m:bL bG)(h:dC base w b gv wv gs ws)(hg:g.Reads (df base w) m)(DJ:ws.length<17179869184) :
  aE 80 #[.pointer (some ⟨b,0,none⟩),.agg g.cells.toArray] w (Fb base w b gv wv gs (yZ ws m)):=by
 obtain⟨x,hx⟩:∃x,x=g.cells:=⟨_,rfl⟩;have lI:x.length=13:=by rw[hx];rfl
 have tK:=h.lt;have kO:=h.low;obtain⟨ad,cd,BF⟩:=hg.2.2.2.2.2.2.2.2.2.2.rd.form;have oL:Fr aX w (w.alloc (.cells x.toArray 129)):=(ae aX w).alloc _;have h1:=h.dx oL;have Il:=hg.mono (fun _ _ h=>h.dx oL);have rh:(w.alloc (.cells x.toArray 129)).heap[w.heap.size]?=some (.cells x.toArray 129 (0,0)):=aC _ _
 have mS:∀i u,g.cells[i]?=some u->(w.alloc (.cells x.toArray 129)).cell? ⟨w.heap.size,i,none⟩=some u:=fun i u hu=>by
  rw[<-hx]at hu;simp only[World.cell?,rh];simpa using hu
 have c0:=mS 0 _ rfl;have c1:=mS 1 _ rfl;have c2:=mS 2 _ rfl;have c3:=mS 3 _ rfl;have q_:=O (JE base _ b gv wv gs ws g.o g.proxy h1 ab);have td:=O rh;have HG:=O Il;have HX:=O hx;have HDV:=O BF;rw[<-hx];clear hg Il rh mS hx BF;go_enter func80,ntmps80;go_wp2_with fail
 clear c0 c1 c2 c3;have alK:w.heap.size<(w.alloc (.cells x.toArray 129)).heap.size:=aS;generalize w.alloc (.cells x.toArray 129)=W at *
 refine q_.o.mono ?_;intro e w2 hpd;obtain⟨rv,rfl⟩:=hpd.ret;obtain⟨⟨gv2,wv2,h2,dF,Jw⟩,_⟩:=hpd;have mJ:=h1.off;have hup:∀j,dk b gv wv j->j<w.heap.size:=fun j hj=>by
  rcases hj with hj|hj|hj
  ·omega
  ·obtain⟨cc,e⟩:=h.tB hj;exact bg e
  ·obtain⟨cc,e⟩:=h.vJ hj;exact bg e
 have p9:¬dk b gv wv w.heap.size:=fun hh=>by have:=hup _ hh;omega
 have yV:=O (dF.keep td.o p9);have yh:=HG.o.mono (fun _ _ h=>h.fr dF mJ);have hll:=E' g.o g.proxy ws;have km:Fr (dk b gv wv) w w2:=fN (oL.mono (fun _ _ h=>absurd h id)) dF (fun _ _ h=>h);have Tz:∀j,dk b gv2 wv2 j->dk b gv wv j\/w.heap.size<j:=fun j hj=>by
  rcases Jw j hj with h|h
  ·exact Or.inl h
  ·exact Or.inr ab
 obtain⟨fs,kx⟩:∃fs,fs=(lR g.o g.proxy ws).1:=⟨_,rfl⟩;rw[<-kx]at h2 hll;have CG:=O (show yZ ws m=(fs++[m]).drop (fs.length+1-8)by
  unfold yZ;rw[<-yh.1, <-yh.2.1, <-kx];simp)
 have xa:=yh.2.2.2.2.2.2.2.2.2.2;rw[HDV.o]at xa;have ZY:w2.cell? ⟨w.heap.size,12,none⟩=some (.slice ad m.a.dom.length cd):=by
  have e:=HX.o;have hd:=HDV.o;have hu:x[12]?=some (.slice ad m.a.dom.length cd):=by rw[e, <-hd];rfl
  simp only[World.cell?,yV.o];simpa using hu
 have CL:=O (rq base _ _ _ xa);have HG2:=O yh;have arR:w.heap.size<w2.heap.size:=bg yV.o;clear q_ oL dF mJ kx h1 yh xa Jw td HG alK;go_wp2_with fail
 refine CL.o.mono ?_;rintro e w3⟨a3,c3,rfl,RQ,iG⟩;have CU:=iG.keep yV.o id;have arS:w.heap.size<w3.heap.size:=bg CU;have af4:w3.cell? ⟨w.heap.size,12,none⟩=some (.slice ad m.a.dom.length cd):=by
  have e:=HX.o;have hd:=HDV.o;have hu:x[12]?=some (.slice ad m.a.dom.length cd):=by rw[e, <-hd];rfl
  simp only[World.cell?,CU];simpa using hu
 have f12:w3.frozen? ⟨w.heap.size,12,none⟩=false:=by simp[World.frozen?,CU]
 have ru:rJ base w3 (one w.heap.size):=by
  rintro j rfl _;exact⟨ab,fun c f e=>by rw[CU]at e;cases e⟩
 have kx:Fr (one w.heap.size) w3 (w3.setCell ⟨w.heap.size,12,none⟩ (.slice a3 m.a.dom.length c3)):=(ae (one w.heap.size) w3).setCell (p:=⟨w.heap.size,12,none⟩) (fun _=>rfl) _;have XE:¬dk b gv2 wv2 w.heap.size:=fun hh=>by
  rcases Tz _ hh with h|h
  ·exact p9 h
  ·omega
 have h4:=(h2.dx iG).fr kx ru (fun hh=>XE (Or.inl (by have e:b=w.heap.size:=hh;rw[e]))) (fun j hj hh=>XE (Or.inr (Or.inl (by have e:j=w.heap.size:=hh;rw[<-e];exact hj)))) (fun j hj hh=>XE (Or.inr (Or.inr (by have e:j=w.heap.size:=hh;rw[<-e];exact hj))));have u0:(g.mK (.slice a3 m.a.dom.length c3)).Reads (df base (w3.setCell ⟨w.heap.size,12,none⟩ (.slice a3 m.a.dom.length c3))) m:=by
  have q:=HG2.o;exact⟨q.1,q.2.1,q.2.2.1,q.2.2.2.1,q.2.2.2.2.1,q.2.2.2.2.2.1,q.2.2.2.2.2.2.1,q.2.2.2.2.2.2.2.1,q.2.2.2.2.2.2.2.2.1,q.2.2.2.2.2.2.2.2.2.1,RQ.fr kx ru⟩
 have CX:∀u∈(g.mK (.slice a3 m.a.dom.length c3)).cells,u.oneCell'=true:=Ty rfl;have uP:=cg CU 12 (.slice a3 m.a.dom.length c3);have hye:x.toArray.setIfInBounds 12 (.slice a3 m.a.dom.length c3)=(g.mK (.slice a3 m.a.dom.length c3)).cells.toArray:=by rw[HX.o];rfl
 rw[hye]at uP;have hFV:Fr (dk b gv wv) w (w3.setCell ⟨w.heap.size,12,none⟩ (.slice a3 m.a.dom.length c3)):=(km.trans (iG.mono (fun _ _ h=>absurd h id))).setCell (p:=⟨w.heap.size,12,none⟩) (fun hl=>absurd hl aS) _;have H4:=O h4;have V0:=O u0;have Z0:=O CX;have XC:=O uP;have hVl:w.heap.size<(w3.setCell ⟨w.heap.size,12,none⟩ (.slice a3 m.a.dom.length c3)).heap.size:=bg uP
 clear ru kx hye uP h4 u0 CX h2 RQ iG CU CL HG2 XE km;obtain⟨av,cv,Tg⟩:=H4.o.waits.form;subst Tg;have d1:=H4.o.c1;have e1:=H4.o.free 1;have nZ:∀i u,(g.mK (.slice a3 m.a.dom.length c3)).cells[i]?=some u->(w3.setCell ⟨w.heap.size,12,none⟩ (.slice a3 m.a.dom.length c3)).cell? ⟨w.heap.size,i,none⟩=some u:=fun i u hu=>by
  simp only[World.cell?,XC.o];simpa using hu
 have x0:=nZ 0 _ rfl;have x1:=nZ 1 _ rfl;have x2:=nZ 2 _ rfl;have x3:=nZ 3 _ rfl;have x4:=nZ 4 _ rfl;have x5:=nZ 5 _ rfl;have x6:=nZ 6 _ rfl;have x7:=nZ 7 _ rfl;have x8:=nZ 8 _ rfl;have x9:=nZ 9 _ rfl;have Xy:=nZ 10 _ rfl;have Xz:=nZ 11 _ rfl;have x12:=nZ 12 _ rfl;obtain⟨i0,rL,pA,kP,kR⟩:=info_parts E7;obtain⟨rs,ho,jX⟩:=H4.o.waits;have HO:=O ho;have qe:=O jX;have hbV:=H4.o.lt
 have cQ:(w3.setCell ⟨w.heap.size,12,none⟩ (.slice a3 m.a.dom.length c3)).ownsRow base 129 13 (.slice av fs.length cv) fs.length (rs.map bL.cells).flatten:=by
  have hh:=ho.2;rw[aj,jX.len]at hh;exact hh
 have zz:¬own (.slice av fs.length cv) b:=H4.o.wb;clear ho jX nZ;go_wp2_with fail
 clear ZY af4 f12;generalize w3.setCell ⟨w.heap.size,12,none⟩ (.slice a3 m.a.dom.length c3)=V at *
 simp only[bL.mK]at x0 x1 x2 x3 x4 x5 x6 x7 x8 x9 Xy Xz x12
 go_region_law ((with_reducible refine mF ⟨some 24,_,_,_,_,_⟩ ?_)
                refine step_append_lies _ bB _ _ _ bB base 129 i0 _ 13 168 underlying116 rL pA kP kR rfl ab (.slice av fs.length cv) fs.length _ bB (by repeat(first|exact cQ|apply World.ownsRow.alloc|apply World.ownsRow.drew)) ⟨V.heap.size,0,none⟩ 1 1 (g.mK (.slice a3 m.a.dom.length c3)).cells bB bB (ky V (g.mK (.slice a3 m.a.dom.length c3)).cells _) Z0.o ab ft ab bH (V.heap.size+1) aS ?_
                intro gg cap w5 vA jq dT abh
                have qG:Fr (own (.slice av fs.length cv)) V w5:=fg (by repeat(first|exact ae _ _|apply aA|apply bq)) jq (fun _ hk _=>hk)
                have k4:w5.cell? ⟨b,1,none⟩=some (.slice av fs.length cv):=(qG.cell (p:=⟨b,1,none⟩) hbV zz).trans d1
                have e4:w5.frozen? ⟨b,1,none⟩=false:=(qG.frozen (p:=⟨b,1,none⟩) hbV zz).trans e1)
 all_goals
  obtain⟨h5,hF5,PE⟩:=Mc (m:=m) H4.o HO.o qe.o V0.o Z0.o qG vA (dT.imp id (fun h=>ab));have d5:=h5.c1;have e5:=h5.free 1;clear x0 x1 x2 x3 x4 x5 x6 x7 x8 x9 Xy Xz x12 d1 e1 k4 e4 jq vA cQ qG;generalize w5.setCell ⟨b,1,none⟩ (.slice (some ⟨gg,0,none⟩) (fs.length+1) cap)=w6 at *
  have zV:(fs++[m]).length=fs.length+1:=aS;have Rk:=O zV;have xO:Fr (dk b gv wv) w w6:=hFV.step hF5 (fun k hk hb=>by
   rcases Tz k hb with h|h
   ·exact h
   ·omega)
  have D5:∀k,dk b gv2 (.slice (some ⟨gg,0,none⟩) (fs.length+1) cap) k->dk b gv wv k\/w.heap.size<=k:=fun k hk=>by
   rcases PE k hk with h|h
   ·rcases Tz k h with h|h
    ·exact Or.inl h
    ·exact Or.inr ab
   ·exact Or.inr ab
  by_cases h8:8<=fs.length
  ·have ZS:(8:Int)<(fs.length:Int)+1:=ab;obtain⟨n,hn⟩:∃n:Nat,fs.length+1=n+8:=⟨fs.length+1-8,ab⟩;rw[<-zV]at h5;obtain⟨rs5,KT,D6⟩:=h5.waits;have LZ:=O (show(rs5.map bL.cells).length=fs.length+1 by rw[aj,D6.len,zV]);have qi:=O (E0 base gg cap 0 n (rs5.map bL.cells) w6 (by rw[LZ.o, <-zV];exact KT) ab (by rw[LZ.o];omega));have hn':=O hn;rw[LZ.o]at qi;clear hn zV;go_wp2_with fail
   rw[show((fs.length:Int)+1-8)=(n:Int)from by have:=hn'.o;omega];refine qi.o.mono ?_;rintro e w7⟨rfl,yD,nt⟩;obtain⟨h7,Rl,d7,e7⟩:=Fa (i:=0) (n:=n) h5 D6 (by rw[Rk.o];exact yD) nt;rw[Rk.o,bw]at h7 Rl;rw[Rk.o]at d7;rw[List.take_zero,List.nil_append]at h7;have H7:=O h7;have Hj:=O Rl;clear h7 Rl qi yD D6 KT;go_wp2_with fail
   go_end0;refine⟨rfl,_,_,by rw[CG.o,show fs.length+1-8=n from by have:=hn'.o;omega];exact H7.o,xO.step Hj.o (fun k hk hb=>by
    rcases D5 k hb with h|h
    ·exact h
    ·omega),fun k hk=>D5 k ?_⟩
   rcases hk with h|h|h
   ·exact Or.inl h
   ·exact Or.inr (Or.inl h)
   ·exact Or.inr (Or.inr h)
  ·have ZS:¬(8:Int)<(fs.length:Int)+1:=ab;go_wp2_with fail
   go_end0;exact⟨rfl,_,_,by rw[CG.o,show fs.length+1-8=0 from ab,eF];exact h5,xO,D5⟩
theorem Gv(base:Nat)(w:World)(b:Nat)(v:Value)(ps:List ep)(h:eP base w b v ps)(hlen:ps.length<1000000) :
  aE 69 #[.pointer (some ⟨b,0,none⟩)] w fun e w'=>∃v',e=.returned v'/\OwnRows w.heap.size 137 12 w' v' (ps.map ep.cells)/\Fr aX w w':=by
 obtain⟨av,cv,hv⟩:=h.form;subst hv;have c0:=h.c0;have hc:=O (XL _ _ w h.rows.at (by rw[aj];omega));clear h;go_enter func69,ntmps69;go_wp2_with fail
 refine hc.o.mono ?_;rintro e u⟨v',rfl,ho,hf⟩;obtain⟨a',c',ua⟩:=ho.form;subst ua;rw[aj]at ho;have HO:=O ho;clear ho;go_wp2;go_ret;exact⟨_,rfl,HO.o,hf⟩
def ep.uC(r:qE)(p:ep):Bool:=p.cG.kM r.cG&&(p.o.kM r.o&&(p.path.toList==r.path.toList&&p.query.toList==r.query.toList))
def ep.vM(o:gz)(p:ep):Bool:=p.cG.kM o||p.o.kM o
theorem zb(o:gz)(pa qu:ai)(o':gz)(pa' qu':ai)(w:World):(binOp .eql 26 (.agg #[.bool o.aD,.string o.host,.int .i64 o.port,.string pa,.string qu]) (.agg #[.bool o'.aD,.string o'.host,.int .i64 o'.port,.string pa',.string qu'])).run prog w=.ok (.bool (o.kM o'&&(pa.toList==pa'.toList&&qu.toList==qu'.toList))) w:=by
 go_simp;simp only[show∀(P:Prop) [Decidable P] (W:World) (b:Bool),(if P then(Result.ok (Value.bool b) W:Result Value)else .ok (.bool false) W)=.ok (.bool (decide P&&b)) W from fun P _ W b=>by by_cases h:P<;>simp[h]]
 congr 2
 rw[eW];simp only[gz.kM,cF,dM,dP,and_assoc,jf]
theorem JL(p:ep)(r:fW Value)(hs:List gT)(br:Nat)(w:World)(hr:w.heap[br]?=some (.cells r.cells.toArray 29 (0,0))) :
  aE 142 #[.agg p.cells.toArray,.pointer (some ⟨br,0,none⟩)] w fun e w'=>e=.returned (.bool (p.uC (r.dX hs)))/\Fr aX w w':=by
 have heq:=j8 p.cG r.cG;have heu:=zb p.o p.path p.query r.o r.path r.query;have ix:Fr aX w (w.alloc (.cells p.cells.toArray 137)):=(ae aX w).alloc _;have g0:=ix.keep hr id;have g1:(w.alloc (.cells p.cells.toArray 137)).heap[w.heap.size]?=some (.cells p.cells.toArray 137 (0,0)):=aC _ _
 have hc:∀i u,r.cells[i]?=some u->(w.alloc (.cells p.cells.toArray 137)).cell? ⟨br,i,none⟩=some u:=fun i u hu=>by simp only[World.cell?,g0];simpa using hu
 have c1:=hc 1 _ rfl;have c2:=hc 2 _ rfl;have c3:=hc 3 _ rfl;have c4:=hc 4 _ rfl;have c5:=hc 5 _ rfl;have c6:=hc 6 _ rfl;have c7:=hc 7 _ rfl;have c8:=hc 8 _ rfl;have HF:=O ix;clear hr g0 g1 hc ix;unfold ep.cells at *
 cases e1:p.cG.kM r.cG
 ·have HR:=O (show p.uC (r.dX hs)=false by unfold ep.uC fW.dX;simp only;rw[e1];rfl);rw[e1]at heq;clear e1;go_enter func142,ntmps142;go_wp2;go_ret;exact⟨by rw[HR.o];rfl,HF.o⟩
 ·have HR:=O (show p.uC (r.dX hs)=(p.o.kM r.o&&(p.path.toList==r.path.toList&&p.query.toList==r.query.toList))by unfold ep.uC fW.dX;simp only;rw[e1];rfl);rw[e1]at heq;generalize (p.o.kM r.o&&(p.path.toList==r.path.toList&&p.query.toList==r.query.toList))=res at *
  clear e1;go_enter func142,ntmps142;go_wp2;go_ret;exact⟨by rw[HR.o];rfl,HF.o⟩
theorem JM(p:ep)(o:gz)(bo:Nat)(w:World)(ho:w.heap[bo]?=some (.cells #[.bool o.aD,.string o.host,.int .i64 o.port] 24 (0,0))) :
  aE 152 #[.agg p.cells.toArray,.pointer (some ⟨bo,0,none⟩)] w fun e w'=>e=.returned (.bool (p.vM o))/\Fr aX w w':=by
 have heq:=j8 p.cG o;have heo:=j8 p.o o;have ix:Fr aX w (w.alloc (.cells p.cells.toArray 137)):=(ae aX w).alloc _;have g0:=ix.keep ho id;have c0:(w.alloc (.cells p.cells.toArray 137)).cell? ⟨bo,0,none⟩=some (.bool o.aD):=by simp[World.cell?,g0]
 have c1:(w.alloc (.cells p.cells.toArray 137)).cell? ⟨bo,1,none⟩=some (.string o.host):=by simp[World.cell?,g0]
 have c2:(w.alloc (.cells p.cells.toArray 137)).cell? ⟨bo,2,none⟩=some (.int .i64 o.port):=by simp[World.cell?,g0]
 have HF:=O ix;clear ho g0 ix;unfold ep.cells at *
 cases e1:p.cG.kM o
 ·have HR:=O (show p.vM o=p.o.kM o by unfold ep.vM;rw[e1];rfl);rw[e1]at heq;generalize p.o.kM o=res at *
  clear e1;go_enter func152,ntmps152;go_wp2;go_ret;exact⟨by rw[HR.o];rfl,HF.o⟩
 ·have HR:=O (show p.vM o=true by unfold ep.vM;rw[e1];rfl);rw[e1]at heq;clear e1;go_enter func152,ntmps152;go_wp2;go_ret;exact⟨by rw[HR.o];rfl,HF.o⟩
def wm(M:Nat)(ps:List jn):Prop:=∀p∈ps,p.1.length<=M/\p.2.length<=M
theorem xe(M:Nat):∀(f:Nat) (ps:List jn) (r:Bs) (q:List jn×Bs),r.length<=M->wm M ps->gL f ps r=.ok q->wm M q.1
 |0,ps,r,q,_,hp,h=>by rw[gL]at h;cases h;exact hp
 |f+1,ps,r,q,hr,hp,h=>by
  rw[gL]at h;cases hq:kG ps r with
  |error e=>rw[hq]at h;cases h
  |ok p =>
   obtain⟨p,r1⟩:=p;rw[hq]at h;have hle:=sW hq;have hg:=om r1;have hn:wm M (ps++[p]):=by
    intro a ha;rcases bO.1 ha with g|g
    ·exact hp a g
    ·simp at g;subst g;exact⟨ab,ab⟩
   simp only at h;split at h
   ·split at h
    ·exact xe M f _ _ q ab hn h
    ·cases h;exact hn
   ·cases h
structure mW.Le (M:Nat) (x:mW):Prop where
 scheme:x.scheme.length<=M
 token:x.token.length<=M
 yx:wm M x.params
theorem Ml{M:Nat}{x:mW}{z:Bs}(hr:r.length<=M)(h:oQ k r=.ok (x,z)):x.Le M:=by
 have hw:=qN r;have hb:=ln (ij r);unfold oQ at h;split at h
 ·cases h
 split at h
 ·cases h
 split at h
 ·cases h;exact⟨by show(gQ r).length<=M;omega,aW _,fun p hp=>by cases hp⟩
 split at h
 ·cases h
 split at h
 ·rename_i q hq;obtain⟨t,z'⟩:=q;have:=BW hq;cases h;exact⟨by show(gQ r).length<=M;omega,by show t.length<=M;omega,fun p hp=>by cases hp⟩
 ·split at h
  ·cases h
  ·rename_i q hq;have:=xe M _ _ _ _ ab (fun p hp=>by cases hp) hq;cases h;exact⟨by show(gQ r).length<=M;omega,aW _,this⟩
theorem zc(M:Nat):∀(f:Nat) (acc:List mW) (r:Bs) (l:List mW),r.length<=M->(∀x∈acc,x.Le M)->jV f acc r=.ok l->∀x∈l,x.Le M
 |0,acc,r,l,_,ha,h=>by rw[jV]at h;cases h;exact ha
 |f+1,acc,r,l,hr,ha,h=>by
  rw[jV]at h;split at h
  ·cases h;exact ha
  ·cases ho:oQ acc.length (ir r)with
   |error e=>rw[ho]at h;cases h
   |ok q =>
    obtain⟨x,r1⟩:=q;rw[ho]at h;have h1:=Bu ho;have h2:=om r;have hx:=Ml (M:=M) ab ho;refine zc M f _ _ l ab (fun y hy=>?_) h;rcases bO.1 hy with g|g
    ·exact ha y g
    ·simp at g;subst g;exact hx
theorem AP{l:List mW}(h:ma r=.ok l):∀x∈l,x.Le r.length:=by
 unfold ma at h;split at h
 ·cases h
 ·exact zc _ _ _ _ _ (az _) (fun x hx=>by cases hx) h
theorem AQ{l:List mW}(h:ma r=.ok l):r.length<=3000:=by
 unfold ma at h;split at h
 ·cases h
 ·omega
theorem PW{l:List mW}(h:ma r=.ok l):∀x∈l,x.Fit:=by
 intro x hx;have h1:=AP h x hx;have h2:=AQ h;have h3:=(IP h).1 x hx;exact⟨by have:=h1.scheme;omega,by have:=h1.token;omega,h3.re,fun p hp=>by have:=h1.yx p hp;omega⟩
theorem Strs.up{b':Nat}{ss:List ai}(h:Strs b' w v ss)(hb:base<=b'):Strs base w v ss:=by
 obtain⟨h1,h2⟩:=h;refine⟨h1,?_⟩;rcases h2 with h2|⟨g,cap,cur,hv,hg,r⟩
 ·exact Or.inl h2
 ·exact Or.inr ⟨g,cap,cur,hv,aH hb hg,r⟩
def kY(ps:List jn):Prop:=ps.length<=1000/\∀p∈ps,p.1.length<=100000/\p.2.length<=100000
def oY(ps:List jn)(n:Bs):List ai:=(xy ps n).map bA
theorem P2(ps:List jn)(n:Bs):(oY ps n).map (·.data.toList)=xy ps n:=by
 unfold oY;rw[gZ]
 conv=>rhs;rw[<-List.map_id (xy ps n)]
 exact List.map_congr_left (fun x _=>by simp[bA])
theorem De(ps:List jn)(n:Bs):(xy ps n).length<=ps.length:=by unfold xy;rw[aj];exact bR _ _
theorem TZ{x:Bs}(h:x∈xy ps n):∃p∈ps,x=p.2:=by
 unfold xy at h;obtain⟨p,hp,rfl⟩:=cz.1 h;exact⟨p,(eY.1 hp).1,rfl⟩
theorem T3(h:ps[k]?=some p)(hs:dH p.1 n=true):oY (ps.take (k+1)) n=oY (ps.take k) n++[bA p.2]:=by
 unfold oY xy;rw[dU h,cC];simp[hs]
theorem P3(h:ps[k]?=some p)(hs:dH p.1 n=false):oY (ps.take (k+1)) n=oY (ps.take k) n:=by
 unfold oY xy;rw[dU h,cC];simp[hs]
theorem JY{sep:Bs}(agC:sep.length=2):∀(l:List Bs) (M:Nat),(∀x∈l,x.length+2<=M)->(Lib.join l sep).length<=l.length*M
 |[],M,_=>by simp[Lib.join]
 |[x],M,h=>by have:=h x aS;simp[Lib.join];omega
 |x :: y :: l,M,h=>by
  have ih:=JY agC (y :: l) M (fun z hz=>h z (bV _ hz));have hx:=h x (cY ..);rw[WB];simp only[aM,List.length_cons,agC]at ih ⊢;rw[gY (l.length+1)];omega
theorem Fl(n:Bs)(hz:kY ps):(kS ps n).length<=100002000:=by
 unfold kS;have h:=JY (sep:=[44,32]) rfl (xy ps n) 100002 (fun x hx=>by obtain⟨p,hp,rfl⟩:=TZ hx;have:=(hz.2 p hp).2;omega);have h2:=De ps n;have h3:=hz.1;have h4:(xy ps n).length*100002<=1000*100002:=bN _ ab;omega
theorem P4(base:Nat)(v:Value)(ss:List ai)(w:World)(hv:Strs base w v ss)(hn:ss.length<=1000)(hlen:(Lib.join (ss.map (·.data.toList)) [44,32]).length<=140737488355328) :
  aE 206 #[v,.string ⟨#[44,32]⟩] w fun e w'=>e=.returned (.string (bA (Lib.join (ss.map (·.data.toList)) [44,32])))/\Fr aX w w':=by
 rcases hv.at with ⟨a,c,rfl,rfl,_⟩|⟨bk,o,c,rfl,h1,h2,h3,h4⟩
 ·exact(strings_Join_none _ _ _ _).mono (by rintro e w1 ⟨rfl,rfl⟩;exact⟨rfl,ae _ _⟩)
 ·exact(strings_Join bk o c ss ⟨#[44,32]⟩ w h4 h3 ab h1 hlen).mono (by rintro e w1 ⟨rfl,hb⟩;exact⟨rfl,fe hb⟩)
def agD(ps:List jn)(n:Bs)(w:World)(out t:Value)(wr:World):Prop :=
 ∃k:Nat,k<=ps.length/\t=.int .i64 k/\Strs w.heap.size wr out (oY (ps.take k) n)/\Fr aX w wr
def Mp(ps:List jn)(n:Bs):Value:=.tuple #[.string (bA (kS ps n)),.bool (p_ ps n)]
theorem P5(v:Value)(ps:List jn)(name:ai)(w:World)(h:lr w v ps)(hz:kY ps)(hn:name.size<17592186044416) :
  aE 195 #[v,.string name] w fun e w'=>e=.returned (Mp ps name.data.toList)/\Fr aX w w':=by
 obtain⟨av,cv,hv⟩:=h.form;subst hv;have HZ:=O hz;have KV:=hz.1;clear hz;go_enter func195,ntmps195;go_wp2;go_loopw[6,11] (agD ps name.data.toList w) (fun _ t _=>ps.length-(intOf t).toNat)
 case atStart=>exact⟨0,aW _,rfl,kA _ _,ae _ _⟩
 case round =>
  obtain⟨k,hk,rfl,ho,cR⟩:=hrel;obtain⟨ao,co,OO⟩:=ho.form;by_cases fE:k<ps.length
  ·have qm:(k:Int)<(ps.length:Int):=ab;have dT:=O (List.getElem?_eq_getElem fE);have VP:=O (HZ.o.2 _ (bQ fE));generalize ps[k]=q at dT VP;obtain⟨nm,vl⟩:=q;obtain⟨bk,of,rfl,h1,h2,c0,c1⟩:=lr.cells (bM h cR) dT.o;unfold maxLen at h2;simp only at c0 c1;obtain⟨wb,jP⟩:∃wb,wb=wr.alloc (.cells #[.string (bA nm),.string (bA vl)] 142):=⟨_,rfl⟩;have kf:Fr aX wr wb:=by rw[jP];exact(ae aX wr).alloc _
   have wY:wb.heap[wr.heap.size]?=some (.cells #[.string (bA nm),.string (bA vl)] 142 (0,0)):=by rw[jP];exact aC _ _
   have qB:=O jP;clear jP;go_wp2_with fail
   rw[<-qB.o];refine(lY (bA nm) name wb (by have h:=VP.o.1;show nm.length<_;omega) hn).mono ?_;rintro e w8⟨rfl,rY⟩;rw[fM];have O0:=O ((cR.trans kf).trans rY);have Ra:=ho.fr (kf.trans rY) (fun _ h=>h.elim);rw[OO]at Ra;have Q7:=O (show(oY (ps.take k) name.data.toList).length<=1000 from by
    unfold oY;rw[aj];have:=De (ps.take k) name.data.toList;rw[aQ]at this;omega)
   have asb:w.heap.size<=w8.heap.size:=O0.o.size;cases oO:dH nm name.data.toList
   ·have p9:=O (P3 dT.o oO);go_wp2;go_roundw
    case rel=>exact⟨k+1,ab,bh,by rw[p9.o];exact Ra,O0.o⟩
    case measure=>simp[intOf];omega
   ·have p9:=O (T3 dT.o oO);have hb8:=rY.keep wY id;have k1:w8.cell? ⟨wr.heap.size,1,none⟩=some (.string (bA vl)):=by simp[World.cell?,hb8]
    generalize oY (ps.take k) name.data.toList=vs at *
    clear oO;go_wp2_with (at_builtin;refine ny rfl _ _ rfl w.heap.size (.slice ao vs.length co) vs rfl (by apply iq;exact Ra) ⟨w8.heap.size,0,none⟩ 1 (bA vl) rfl (jk _ _ _ _) (by have:=Q7.o;omega) bH ?_;intro v' w9 uE hg9)
    have VO:=O ((O0.o.alloc (.cells #[.string (bA vl)] 9)).fJ hg9 (fun j hj=>Ra.block j hj));go_roundw
    case rel=>exact⟨k+1,ab,bh,by rw[p9.o];exact uE,VO.o⟩
    case measure=>simp[intOf];omega
  ·have qm:¬(k:Int)<(ps.length:Int):=ab;have OL:ps.take k=ps:=aG ab;rw[OL]at ho OO;subst OO;have Q7:=De ps name.data.toList;have Q8:(oY ps name.data.toList).length=(xy ps name.data.toList).length:=by unfold oY;rw[aj]
   have HJ:=O (show Lib.join ((oY ps name.data.toList).map (·.data.toList)) [44,32]=kS ps name.data.toList by rw[P2];rfl);have HB:=O (show decide (0<(oY ps name.data.toList).length)=p_ ps name.data.toList by
    unfold p_;rw[Q8];cases xy ps name.data.toList with
    |nil=>rfl
    |cons a l=>simp)
   have hJ:=O (P4 w.heap.size _ (oY ps name.data.toList) wr ho ab (by rw[HJ.o];have:=Fl name.data.toList HZ.o;omega));rw[HJ.o]at hJ;clear Q8 Q7;generalize hvs:oY ps name.data.toList=vs at *
   have HVS:=O hvs;clear hvs;go_wp2_with fail
   refine hJ.o.mono ?_;rintro e u⟨rfl,zA⟩;go_wp2;go_ret2;refine⟨?_,cR.trans zA⟩;unfold Mp;rw[<-HB.o];rfl
theorem vO(v:Value)(ps:List jn)(n:Bs)(w:World)(h:lr w v ps)(hz:kY ps)(hn:n.length<1000)(s:ai)(b:Bool)(hs:kS ps n=s.data.toList)(hb:p_ ps n=b) :
  aE 195 #[v,.string (bA n)] w fun e w'=>e=.returned (.tuple #[.string s,.bool b])/\Fr aX w w':=by
 refine(P5 v ps (bA n) w h hz (by show n.length<_;omega)).mono ?_;rintro e u⟨rfl,hf⟩;refine⟨?_,hf⟩;unfold Mp;rw[fM,hs,hb,RV]
theorem tE(ps:List jn)(n:Bs)(hz:kY ps):∃s:ai,kS ps n=s.data.toList/\s.size<=100002000:=⟨bA (kS ps n),by rw[fM],by show(kS ps n).length<=_;exact Fl n hz⟩
theorem X1(v:Value)(ps:List jn)(w:World)(h:lr w v ps)(hz:kY ps) :
  aE 139 #[v] w fun e w'=>e=.returned (.int .i64 (mP ps))/\Fr aX w w':=by
 obtain⟨s,hs,xl⟩:=tE ps F0 hz;cases hb:p_ ps F0
 ·have HA:=O (show mP ps=5 by unfold mP;rw[hb];rfl);have hG:=O (vO v ps F0 w h hz ag s false hs hb);clear hb hs;go_enter func139,ntmps139;go_wp2_with fail
  refine hG.o.mono ?_;rintro e u⟨rfl,zA⟩;go_wp2;go_ret;exact⟨by rw[HA.o];rfl,zA⟩
 ·have hG:=O (vO v ps F0 w h hz ag s true hs hb);have HS:=O (fun u=>IB s u ab);cases hd:oq s.data.toList
  ·have HA:=O (show mP ps=5 by unfold mP;rw[hb,hs,hd];rfl);have HD:=O hd;clear hb hs hd;go_enter func139,ntmps139;go_wp2_with fail
   refine hG.o.mono ?_;rintro e u⟨rfl,zA⟩;go_wp2_with fail
   refine(HS.o u).mono ?_;intro e u2 hp;obtain⟨rfl,dF⟩:=hp.no HD.o;go_wp2;go_ret;exact⟨by rw[HA.o];rfl,zA.trans dF⟩
  ·have HA:=O (show mP ps=min (yq s.data.toList) 600 by unfold mP;rw[hb,hs,hd];rfl);have HD:=O hd;have hE:=O (fun u=>HS.o u);clear hb hs hd;go_enter func139,ntmps139;go_wp2_with fail
   refine hG.o.mono ?_;rintro e u⟨rfl,zA⟩;go_wp2_with fail
   refine(HS.o u).mono ?_;intro e u2 hp;obtain⟨rfl,dF⟩:=hp.ok HD.o;go_wp2;go_ret;exact⟨by rw[HA.o];rfl,zA.trans dF⟩
def Fm(ps:List jn)(n:Bs)(w:World)(e:Ending)(w':World):Prop :=
 Fr aX w w'/\match kI ps n with
 |some ws=>∃v,e=.returned (.tuple #[v,.nilIface])/\Strs w.heap.size w' v (dQ ws)
 |none=>e=.returned (.tuple #[.slice none 0 0,.iface 82 (.int .i64 3)])
theorem P6(v:Value)(ps:List jn)(n:Bs)(w:World)(h:lr w v ps)(hz:kY ps)(hn:n.length<1000) :
  aE 135 #[v,.string (bA n)] w (Fm ps n w):=by
 obtain⟨s,hs,xl⟩:=tE ps n hz;have hG:=O (vO v ps n w h hz hn s _ hs rfl);have HW:=O (show kI ps n=match gO s.data.toList with| .error _=>none| .ok l=>if 40<l.length then none else some l by unfold kI;rw[hs];cases gO s.data.toList<;>rfl);have HL:=O (fun u=>Ir s u ab);clear hs;generalize p_ ps n=b at hG;go_enter func135,ntmps135;go_wp2_with fail
 refine hG.o.mono ?_;rintro e u⟨rfl,zA⟩;go_wp2_with fail
 refine(HL.o u).mono ?_;rintro e u2⟨v2,er,rfl,dF,hm⟩;have T4:=O (zA.trans dF);cases hl:gO s.data.toList with
 |error m =>
  rw[hl]at hm;obtain⟨rfl,g,rfl,hg⟩:=hm;have HN:=O (show kI ps n=none by rw[HW.o,hl]);clear hl;go_wp2;go_ret2;refine⟨T4.o,?_⟩;rw[HN.o];exact rfl
 |ok ws =>
  rw[hl]at hm;by_cases FM:40<ws.length
  ·have HN:=O (show kI ps n=none by rw[HW.o,hl];show(if _ then _ else _)=_;rw[aB FM]);have RZ:if 40<ws.length then v2=.slice none 0 0/\Ei u2 er (some (4,none))else Strs u.heap.size u2 v2 (dQ ws)/\er=.nilIface:=hm
   rw[aB FM]at RZ;obtain⟨rfl,rfl⟩:=RZ;clear hl hm;go_wp2;go_ret2;refine⟨T4.o,?_⟩;rw[HN.o];exact rfl
  ·have HN:=O (show kI ps n=some ws by rw[HW.o,hl];show(if _ then _ else _)=_;rw[ay FM]);have RZ:if 40<ws.length then v2=.slice none 0 0/\Ei u2 er (some (4,none))else Strs u.heap.size u2 v2 (dQ ws)/\er=.nilIface:=hm
   rw[ay FM]at RZ;obtain⟨iQ,rfl⟩:=RZ;clear hl hm;have wG:=zA.size;go_wp2;go_ret2;refine⟨T4.o,?_⟩;rw[HN.o];exact⟨_,rfl,iQ.up wG⟩
structure eD where
 bZ:List (aU bG)
 waits:List (bL bG)
 book:List ep
 eJ:List (gz×Int)
structure ed where
 part:Nat->eD
 now:Int
structure jx where
 what:Int
 part:Int
 cG:gz
 o:gz
 path:ai
 query:ai
 method:ai
 ef:List gT
 fq:Bool
 body:ai
 proxy:Bool
 text:ai
 user:ai
 pass:ai
 bz:ai
 cert:Int
 all:Bool
 n:Int
structure kq where
 what:Int
 head:ai
 cert:Int
def jx.aF(o:jx):qE:=⟨o.cG,o.o,o.path,o.query,o.method,o.ef,o.fq⟩
def xR:eD:=⟨[],[],[],[]⟩
def Gw:ed:=⟨fun _=>xR,0⟩
def ed.set(w:ed)(k:Nat)(p:eD):ed:={w with part:=fun i=>if i=k then p else w.part i}
def rep(n:Int):kq:=⟨n,.empty,0⟩
def jx.XM(o:jx)(g:aU bG):nD:=⟨decide (g.a.scheme=3),g.a.cy,g.a.aO,g.a.bC,g.a.eZ,g.user,g.pass,jB o.method,nw o.path o.query,o.body,o.bz,g.count.toNat⟩
def qj(g:aU bG)(o:jx):Option ai :=
 if g.a.scheme=1 then
  (if 0<=Lib.indexByte g.user.data.toList 58 then none else if lg g.user&&lg g.pass then some (CD g.user g.pass)else none)
 else if((g.a.scheme=2\/g.a.scheme=3)/\(g.a.eZ.data.toList=[]\/g.a.eZ.data.toList=lN\/g.a.eZ.data.toList=pM))/\(1<=g.count/\g.count<=4294967295)/\(yK g.a.scheme g.a.cj (o.XM g)).fair=true then
  some (bA (yK g.a.scheme g.a.cj (o.XM g)).text)
 else none
def uD(gs:List (aU bG))(o:gz)(proxy:Bool)(aO:ai):List (aU bG):=gs.filter (fun x=>!mM o proxy aO x)
def lq(p:eD)(o:jx):eD×kq :=
 match uU p.bZ o.o o.proxy o.path with
 |(gs,.error _)=>({p with bZ:=gs},rep 2)
 |(gs,.ok g) =>
  match qj g o with
  |none=>({p with bZ:=uD gs g.o g.proxy g.a.aO},rep 2)
  |some s=>({p with bZ:=gs},⟨1,s,0⟩)
def XN(gs:List (aU bG))(o:gz)(proxy:Bool)(aO:ai):Option (aU bG):=gs.find? (mM o proxy aO)
def C6(a:fX bG)(g:Option (aU bG)):Option (aU bG) :=
 match g with
 |some g=>if a.dr&&(a.scheme==g.a.scheme&&a.bC.toList !=g.a.bC.toList)then some {g with a:=a,count:=0}else none
 |none=>none
def jv(p:eD)(o:jx):eD×kq :=
 match ma o.text.data.toList with
 | .error _=>(p,rep 7)
 | .ok l =>
  if 0<(iY l).scheme then
   match C6 (iY l) (XN p.bZ o.o o.proxy (iY l).aO)with
   |some g=>({p with bZ:=uT p.bZ g},rep 1)
   |none=>({p with bZ:=uD p.bZ o.o o.proxy (iY l).aO,waits:=yZ p.waits ⟨o.o,o.proxy,o.path,iY l⟩},rep 3)
  else(p,rep 2)
def kT(p:eD)(o:jx):eD×kq :=
 match lR o.o o.proxy p.waits with
 |(ws,none)=>({p with waits:=ws},rep 2)
 |(ws,some x)=>({p with waits:=ws,bZ:=uT p.bZ ⟨x.o,x.proxy,o.user,o.pass,x.a,0,nG x.a x.proxy x.path⟩},rep 1)
def kU(p:eD)(now:Int)(o:jx):eD×kq :=
 match mE o.text.data.toList with
 | .error _=>(p,rep 7)
 | .ok l =>
  match tV o.aF (Er o.cG.dX) l now with
  | .error _=>({p with book:=p.book.filter (fun q=>!q.uC o.aF)},rep 2)
  | .ok m=>({p with book:=tU p.book m now},rep 1)
def JN(o:gz)(l:List (gz×Int)):List (gz×Int):=l.filter (fun c=>!c.1.kM o)
def xc(l:List (gz×Int))(o:gz)(n:Int):List (gz×Int) :=
 (JN o l++[(o,n)]).drop ((JN o l++[(o,n)]).length-8)
def oD(p:eD)(o:jx):eD×kq :=
 if o.cert<0 then(p,rep 7)else({p with eJ:=xc p.eJ o.o o.cert},rep 1)
def Oa(p:eD)(o:jx):kq :=
 match p.eJ.find? (fun c=>c.1.kM o.o)with
 |some c=>⟨1,.empty,c.2⟩
 |none=>rep 3
def vN(p:eD)(o:gz):eD:={p with bZ:=p.bZ.filter (fun g=>!VZ o g),waits:=p.waits.filter (fun g=>!L7 o g)}
def Mh(p:eD)(o:gz):eD:={vN p o with book:=p.book.filter (fun q=>!q.vM o),eJ:=JN o p.eJ}
def rB(p:eD)(o:jx):eD×kq :=
 if o.all&&o.what==9 then(xR,rep 1)
 else if o.what==9 then(Mh p o.o,rep 1)else(vN p o.o,rep 1)
def wk(p:eD)(now:Int)(o:jx):eD×kq :=
 if o.what=1 then lq p o
 else if o.what=2 then jv p o
 else if o.what=3 then kT p o
 else if o.what=4 then(p,rep (if mh p.book o.aF now then 5 else 4))
 else if o.what=5 then kU p now o
 else if o.what=6 then(p,Oa p o)
 else if o.what=7 then oD p o
 else rB p o
def jx.TI(o:jx):Bool:=decide (0<=o.part)&&(decide (o.part<4)&&(zI o.method.data.toList&&(decide (o.ef.length<=40)&&o.ef.all fun p=>zI p.1.data.toList)))
def jx.right(o:jx):Bool :=
 decide (1<=o.what)&&(decide (o.what<=10)&&(o.TI&&(nF o.cG&&(nF o.o&&(decide (o.path.size<=200)&&(o.path.data.toList.head?==some 47&&decide (o.text.size<=3000)))))))
def nj(w:ed)(o:jx):ed×kq :=
 if o.right then
  if o.what=10 then
   if o.n<0\/1099511627776-w.now<o.n then(w,rep 7)else({w with now:=w.now+o.n},rep 1)
  else(w.set o.part.toNat (wk (w.part o.part.toNat) w.now o).1,(wk (w.part o.part.toNat) w.now o).2)
 else(w,rep 7)
def dV(o:jx):Nat×Bool :=
 if o.right then
  if o.what=1\/o.what=2\/o.what=3\/o.what=8 then(1,true)
  else if o.what=4 then(10,false)
  else if o.what=5 then(10,true)
  else if o.what=6 then(4,false)
  else if o.what=7 then(4,true)
  else if o.what=10 then(8,true)
  else(7,true)
 else(0,false)
def tD(base:Nat)(w:World)(b:Nat)(v:Value)(ps:List ep)(f:ep->Bool)(e:Ending)(w':World):Prop :=
 e=.returned (.int .i64 ((ps.length:Int)-((ps.filter (fun p=>!f p)).length:Int)))/\C4 base w b v (ps.filter (fun p=>!f p)) w'
theorem Fh{w1 w2:World}{ps ys:List ep}(h:eP base w1 b v ps)(dw:Fr aX w w1)(dF:Fr (own v) w1 w2)(Ho:own (.slice a ys.length c)=own v)(ho:OwnRows base 137 12 w2 (.slice a ys.length c) (ys.map ep.cells)) :
  eP base (w2.setCell ⟨b,0,none⟩ (.slice a ys.length c)) b (.slice a ys.length c) ys/\Fr (ik b v) w (w2.setCell ⟨b,0,none⟩ (.slice a ys.length c))/\(∀k,ik b (.slice a ys.length c) k->ik b v k\/w.heap.size<=k)/\w2.cell? ⟨b,0,none⟩=some v/\w2.frozen? ⟨b,0,none⟩=false:=by
 have JK:=dF.keep h.eK h.nb;refine⟨oC h.low JK ho,?_,?_,by simp[World.cell?,JK],by simp[World.frozen?,JK]⟩
 ·exact(fN (S:=ik b v) (dw.mono (fun _ _ h=>absurd h id)) dF (fun _ _ h=>Or.inr h)).setCell (p:=⟨b,0,none⟩) (fun _=>Or.inl rfl) _
 ·rintro k(hk|hk)
  ·exact Or.inl (Or.inl hk)
  ·exact Or.inl (Or.inr (by rw[<-Ho];exact hk))
theorem JX(base:Nat)(w:World)(b:Nat)(v:Value)(ps:List ep)(r:fW Value)(hs:List gT)(h:eP base w b v ps)(hlen:ps.length<1000000) :
  aE 88 #[.pointer (some ⟨b,0,none⟩),.agg r.cells.toArray] w (tD base w b v ps (ep.uC (r.dX hs))):=by
 obtain⟨rc,ui⟩:∃rc,rc=r.cells.toArray:=⟨_,rfl⟩;have dw:Fr aX w (w.alloc (.cells rc 29)):=(ae _ _).alloc _;have l_:(w.alloc (.cells rc 29)).heap[w.heap.size]?=some (.cells rc 29 (0,0)):=aC _ _;have h1:=h.dx dw;obtain⟨ak,ck,Ro⟩:=h.form;subst Ro;have Jy:¬own (.slice ak ps.length ck) w.heap.size:=fun hk=>by have:=h.C5 hk;omega
 have hd:=pE base 142 #[.pointer (some ⟨w.heap.size,0,none⟩)] (fun y=>(Gt y).uC (r.dX hs)) (.slice ak ps.length ck) (ps.map ep.cells) _ call142 (fun y hy u hu=>by
  obtain⟨q,_,rfl⟩:=cz.1 hy;exact JL q r hs w.heap.size u (by rw[<-ui];exact hu.keep l_ Jy)) h1.rows
 rw[qJ ps (ep.uC (r.dX hs)),aj]at hd;obtain⟨ys,IV⟩:∃ys,ys=ps.filter (fun p=>!p.uC (r.dX hs)):=⟨_,rfl⟩;have hyl:ys.length<=ps.length:=by rw[IV];exact bR _ _
 unfold tD;rw[<-IV]at hd ⊢;have HD:=O hd;have H1:=O h1;have lA:=O dw;have c0:=h1.c0;have e0:=h1.free 0;rw[<-ui];clear hd IV h1 h dw l_ ui Jy;go_enter func88,ntmps88;go_wp2_with fail
 refine HD.o.mono ?_;rintro e w2⟨a2,c2,rfl,qD,dF,Ho⟩;obtain⟨g1,g2,g3,d0,e2⟩:=Fh H1.o lA.o dF Ho qD;have d3:=g1.c0;have G:=O (And.intro g1 (And.intro g2 g3));clear g1 g2 g3 qD dF Ho HD H1 lA c0 e0;go_wp2;go_ret;exact⟨rfl,_,G.o.1,G.o.2.1,G.o.2.2⟩
theorem Mm(base:Nat)(w:World)(b:Nat)(v:Value)(ps:List ep)(o:gz)(h:eP base w b v ps)(hlen:ps.length<1000000) :
  aE 93 #[.pointer (some ⟨b,0,none⟩),.agg o.cells.toArray] w (tD base w b v ps (ep.vM o)):=by
 unfold gz.cells;have dw:Fr aX w (w.alloc (.cells #[.bool o.aD,.string o.host,.int .i64 o.port] 24)):=(ae _ _).alloc _;have l_:(w.alloc (.cells #[.bool o.aD,.string o.host,.int .i64 o.port] 24)).heap[w.heap.size]?=some (.cells #[.bool o.aD,.string o.host,.int .i64 o.port] 24 (0,0)):=aC _ _;have h1:=h.dx dw;obtain⟨ak,ck,Ro⟩:=h.form;subst Ro
 have Jy:¬own (.slice ak ps.length ck) w.heap.size:=fun hk=>by have:=h.C5 hk;omega
 have hd:=pE base 152 #[.pointer (some ⟨w.heap.size,0,none⟩)] (fun y=>(Gt y).vM o) (.slice ak ps.length ck) (ps.map ep.cells) _ call152 (fun y hy u hu=>by
  obtain⟨q,_,rfl⟩:=cz.1 hy;exact JM q o w.heap.size u (hu.keep l_ Jy)) h1.rows
 rw[qJ ps (ep.vM o),aj]at hd;obtain⟨ys,IV⟩:∃ys,ys=ps.filter (fun p=>!p.vM o):=⟨_,rfl⟩;have hyl:ys.length<=ps.length:=by rw[IV];exact bR _ _
 unfold tD;rw[<-IV]at hd ⊢;have HD:=O hd;have H1:=O h1;have lA:=O dw;have c0:=h1.c0;have e0:=h1.free 0;clear hd IV h1 h dw l_ Jy;go_enter func93,ntmps93;go_wp2_with fail
 refine HD.o.mono ?_;rintro e w2⟨a2,c2,rfl,qD,dF,Ho⟩;obtain⟨g1,g2,g3,d0,e2⟩:=Fh H1.o lA.o dF Ho qD;have d3:=g1.c0;have G:=O (And.intro g1 (And.intro g2 g3));clear g1 g2 g3 qD dF Ho HD H1 lA c0 e0;go_wp2;go_ret;exact⟨rfl,_,G.o.1,G.o.2.1,G.o.2.2⟩
theorem T7(a d g:Bool)(b e p q m h:ai)(c f t:Int):prog.built 137 [(0,.agg #[.bool a,.string b,.int .i64 c]),(1,.agg #[.bool d,.string e,.int .i64 f,.string p,.string q]),(2,.bool g),(3,.string m),(4,.string h),(5,.int .i64 t)]=some #[.bool a,.string b,.int .i64 c,.bool d,.string e,.int .i64 f,.string p,.string q,.bool g,.string m,.string h,.int .i64 t]:=af
theorem Mq:(prog.info? 137).map (fun i=>(i.zero,i.size,i.bytes))=some (some (.agg D8),12,144):=af
theorem OwnRows.T8{e:TypeId}{xs:cX}(h:OwnRows b e k w v xs)(hg:own v g):∃c,w.heap[g]?=some (.cells c e (0,0)):=by
 obtain⟨cap,cur,_,_,h2,_⟩:=h.open hg;exact⟨cur,h2⟩
theorem T9(p:ep):∀u∈p.cells,u.oneCell'=true:=by unfold ep.cells;simp[Value.oneCell']
theorem J0(acc:List ep)(X:ep):acc.any (fun q=>q.kM X)=acc.any (fun q=>X.kM q):=by
 congr 1;funext q
 rw[eW,ep.yl,ep.yl];exact eq_comm
theorem GC{P:Program}{ops:Array Oper}{S:World->Prop}{o:Oper}{a:Act}(hg:o.guard=none)(t:TypeId)(parts:Array (Nat×Operand))(ho:o.op=.build t parts)(cells:bW)
  (hf:P.built t (parts.map fun(i,x)=>(i,a.eval x)).toList=some cells):YieldsIf P ops S o (.agg cells) a :=
 Or.inl ⟨by simp[Region.wanted,hg],fun w _=>by
  unfold execOp;simp only[ho,Sem.run_bind,run_build w t _ cells hf,Result.andThen_ok];rfl⟩
theorem uF{ops:Array Oper}{S:World->Prop}{o:Oper}{a:Act}(hg:o.guard=none)(x0 x1 x2 x3 x4 x5:Operand)
  (ho:o.op=.build 137 #[(0,x0),(1,x1),(2,x2),(3,x3),(4,x4),(5,x5)])(b1 b2 b3:Bool)(s1 s2 s3 s4 s5 s6:ai)(i1 i2 i3:Int)
  (h0:a.eval x0=.agg #[.bool b1,.string s1,.int .i64 i1])(h1:a.eval x1=.agg #[.bool b2,.string s2,.int .i64 i2,.string s3,.string s4])(h2:a.eval x2=.bool b3)(h3:a.eval x3=.string s5)(h4:a.eval x4=.string s6)(h5:a.eval x5=.int .i64 i3) :
  YieldsIf prog ops S o (.agg #[.bool b1,.string s1,.int .i64 i1,.bool b2,.string s2,.int .i64 i2,.string s3,.string s4,.bool b3,.string s5,.string s6,.int .i64 i3]) a:=by
 refine GC hg 137 _ ho _ ?_;simp only[eM,cA,du,h0,h1,h2,h3,h4,h5];exact T7 _ _ _ _ _ _ _ _ _ _ _ _
theorem Df{P:Program}{ops:Array Oper}{a:Act}{w:World}{K:Act->World->Prop}{Q:Exit->Act->World->Prop}{E:Prop}{o:Oper}(yc:o.guard=none)(ty:TypeId)(x y:Operand)(ho:o.op=.store ty x y)
  (g:Nat)(cells:bW)(hx:a.eval x=.pointer (some ⟨g,0,none⟩))(hy:a.eval y=.agg cells)
  (t:TypeId)(old:bW)(hg:w.heap[g]?=some (.cells old t (0,0)))(hi:(P.info? ty).map (·.size)=some cells.size)
  (hold:old.size=cells.size)(h1:cells.all (·.oneCell')=true)
  (h:K (a.put o.dst undef) (w.setRow g cells)):if Region.wanted o (yielded ops a.tmps)=true then Oper.wp P o a w K Q else E:=by
 have hw:Region.wanted o (yielded ops a.tmps)=true:=by simp[Region.wanted,yc]
 rw[aB hw];exact wp_store_row ty x y ho g cells hx hy t old hg hi hold h1 h
theorem jG{S:dB}{a:World}(h:Fr S a w)(hg:a.heap.size<=g)(cs:bW):Fr S a (w.setRow g cs) :=
 ⟨h.os,h.tape,h.output,by show a.heap.size<=(w.setRow g cs).heap.size;rw[World.setRow];simp only[Array.size_modify];exact h.size,fun k hk hn=>(show(w.setRow g cs).heap[k]?=w.heap[k]? by simp[World.setRow,Array.getElem?_modify,show g≠k from ab]).trans (h.block k hk hn)⟩
theorem nS{old cs:bW}{t:TypeId}(h:w.heap[g]?=some (.cells old t (0,0))):(w.setRow g cs).heap[g]?=some (.cells cs t (0,0)):=by
 simp[World.setRow,Array.getElem?_modify,h]
theorem X2(base:Nat)(m hd:ai)(r:fW Value)(hs:List gT)(now:Int)(lv:Value)(ps:List jn)(acc:List ep)(v:Value)(br bn bl bp:Nat)(w:World)
  (hr:w.heap[br]?=some (.cells r.cells.toArray 29 (0,0)))(hn:w.heap[bn]?=some (.cells #[.int .i64 now] 3 (0,0)))(hl:w.heap[bl]?=some (.cells #[lv] 27 (0,0)))(hp:w.heap[bp]?=some (.cells #[v] 119 (0,0)))
  (Lv:lr w lv ps)(hz:kY ps)(cQ:OwnRows base 137 12 w v (acc.map ep.cells))(hb:base<=bp)(hlen:acc.length<1000000)(n0:0<=now)(n1:now<=1099511627776) :
  aE 138 #[.string m,.string hd,.pointer (some ⟨br,0,none⟩),.pointer (some ⟨bn,0,none⟩),.pointer (some ⟨bl,0,none⟩),.pointer (some ⟨bp,0,none⟩)] w fun e w'=>e=.returned (.tuple #[])/\∃v',w'.heap[bp]?=some (.cells #[v'] 119 (0,0))/\OwnRows base 137 12 w' v' ((pO acc ((r.dX hs).Ca (now+mP ps) m hd)).map ep.cells)/\Fr (fun k=>k=bp\/own v k) w w':=by
 have hag:=Lq ps;have agF:=O (show∀U,Fr aX w U->aE 139 #[lv] U fun e w'=>e=.returned (.int .i64 (mP ps))/\Fr aX U w' from fun U hU=>X1 lv ps U (bM Lv hU) hz);obtain⟨al,cl,hlv⟩:=dR Lv;rw[aj]at hlv;subst hlv
 have HC:=O (show∀U,Fr aX w U->(U.cell? ⟨br,1,none⟩=some (.bool r.cG.aD)/\U.cell? ⟨br,2,none⟩=some (.string r.cG.host)/\U.cell? ⟨br,3,none⟩=some (.int .i64 r.cG.port)/\U.cell? ⟨br,4,none⟩=some (.bool r.o.aD)/\U.cell? ⟨br,5,none⟩=some (.string r.o.host)/\U.cell? ⟨br,6,none⟩=some (.int .i64 r.o.port)/\U.cell? ⟨br,7,none⟩=some (.string r.path)/\U.cell? ⟨br,8,none⟩=some (.string r.query)/\U.cell? ⟨br,11,none⟩=some (.bool r.fq)/\U.cell? ⟨bn,0,none⟩=some (.int .i64 now)/\U.cell? ⟨bl,0,none⟩=some (.slice al ps.length cl))from fun U hU=>by
  have j:=hU.keep hr id;have hc:∀i u,r.cells[i]?=some u->U.cell? ⟨br,i,none⟩=some u:=fun i u hu=>by simp only[World.cell?,j];simpa using hu
  exact⟨hc 1 _ rfl,hc 2 _ rfl,hc 3 _ rfl,hc 4 _ rfl,hc 5 _ rfl,hc 6 _ rfl,hc 7 _ rfl,hc 8 _ rfl,hc 11 _ rfl,by simp[World.cell?,hU.keep hn id],by simp[World.cell?,hU.keep hl id]⟩)
 obtain⟨X,hX⟩:∃X,X=(r.dX hs).Ca (now+mP ps) m hd:=⟨_,rfl⟩;obtain⟨x,hx⟩:∃x,x=X.cells:=⟨_,rfl⟩;have lI:x.length=12:=by rw[hx];rfl
 have wH:=O (show∀u∈x,u.oneCell'=true from by rw[hx];exact T9 X);have EW:=vw x #[.bool false,.string ⟨#[]⟩,.int .i64 0,.bool false,.string ⟨#[]⟩,.int .i64 0,.string ⟨#[]⟩,.string ⟨#[]⟩,.bool false,.string ⟨#[]⟩,.string ⟨#[]⟩,.int .i64 0] (by rw[lI];rfl);have HX:=O hx
 have HXC:=O (show x.toArray= #[.bool r.cG.aD,.string r.cG.host,.int .i64 r.cG.port,.bool r.o.aD,.string r.o.host,.int .i64 r.o.port,.string r.path,.string r.query,.bool r.fq,.string m,.string hd,.int .i64 (now+mP ps)]by rw[hx,hX];rfl);rw[<-hX];clear hX hx;have aoY:IntKind.i64.wrap (now+mP ps)=now+mP ps:=by rw[IntWalk.i64_left];exact IntWalk.wrap64_in _ ab
 clear hr hn hl Lv hz;go_enter func138,ntmps138;go_wp2_with fail
 refine wp_region_held_drew (S:=(fun U=>U.cell? ⟨br,1,none⟩=some (.bool r.cG.aD)/\U.cell? ⟨br,2,none⟩=some (.string r.cG.host)/\U.cell? ⟨br,3,none⟩=some (.int .i64 r.cG.port)/\U.cell? ⟨br,4,none⟩=some (.bool r.o.aD)/\U.cell? ⟨br,5,none⟩=some (.string r.o.host)/\U.cell? ⟨br,6,none⟩=some (.int .i64 r.o.port)/\U.cell? ⟨br,7,none⟩=some (.string r.path)/\U.cell? ⟨br,8,none⟩=some (.string r.query)/\U.cell? ⟨br,11,none⟩=some (.bool r.fq)/\U.cell? ⟨bn,0,none⟩=some (.int .i64 now)/\U.cell? ⟨bl,0,none⟩=some (.slice al ps.length cl))) af (HC.o _ (ae aX w).drew) ?_
 intro xg;refine aP 0 9 rfl ?_;refine aP 1 10 rfl ?_;refine aP 2 11 rfl ?_;refine aP 3 12 rfl ?_;refine aP 4 13 rfl ?_;refine aP 5 14 rfl ?_;refine aP 6 15 rfl ?_;refine aP 7 16 rfl ?_;refine aP 8 17 rfl ?_;refine aP 9 18 rfl ?_;refine wpAnyH_ready (rs:=[10,13]) af aS ?_;refine AllReadyH.cons rfl (fun K hK=>?hA) (AllReadyH.cons rfl (fun K hK=>?hB) AllReadyH.nil)
 case' hA =>
  go_simp;refine(agF.o _ (ae aX w).drew).mono ?_;rintro e u⟨rfl,hu⟩;have HU:=O (show Fr aX w u from((ae aX w).drew).trans hu);refine hK.out _ _ (HC.o _ HU.o) ?_;intro wM;clear hK xg hu K
  try simp only[Act.put,sA,sB,sC]
  refine aP 11 20 rfl ?_
  refine wpAnyH_take (i:=12) (oi:=⟨some 21,_,_,_,_,_⟩) (v:=.agg #[.bool r.cG.aD,.string r.cG.host,.int .i64 r.cG.port,.bool r.o.aD,.string r.o.host,.int .i64 r.o.port,.string r.path,.string r.query,.bool r.fq,.string m,.string hd,.int .i64 (now+mP ps)]) rfl af af af (fun _ _ _ h=>h) (uF rfl (.tmp 10) (.tmp 12) (.tmp 14) (.tmp 15) (.tmp 16) (.tmp 20) rfl r.cG.aD r.o.aD r.fq r.cG.host r.o.host r.path r.query m hd r.cG.port r.o.port (now+mP ps) rfl rfl rfl rfl rfl rfl) jR ?_
  try simp only[Act.put,sA,sB,sC]
  refine eE 13 rfl fun K hK=>?_;go_simp;obtain⟨bx,GD⟩:∃bx,bx=u.heap.size:=⟨_,rfl⟩;obtain⟨w3,SE⟩:∃w3,w3=u.alloc (.cells D8 137):=⟨_,rfl⟩;have HZB:=O (show w3.heap[bx]?=some (.cells D8 137 (0,0))from by rw[SE,GD];exact aC _ _);have X3:=O (show Fr aX w w3 from by rw[SE];exact HU.o.alloc _);have rh:w.heap.size<=bx:=by rw[GD];exact HU.o.size
  rw[<-SE, <-GD];refine hK.out _ _ (HC.o _ X3.o) ?_;intro yb;clear hK wM K SE GD
 case' hB =>
  go_simp;obtain⟨bx,GD⟩:∃bx,bx=w.heap.size:=⟨_,rfl⟩;obtain⟨w2,X4⟩:∃w2,w2=(w.alloc (.cells D8 137)).drew:=⟨_,rfl⟩;have kR:w2.heap[bx]?=some (.cells D8 137 (0,0)):=by rw[X4,GD];exact aC _ _
  have X5:Fr aX w w2:=by rw[X4];exact((ae _ _).alloc _).drew
  have rh:w.heap.size<=bx:=by rw[GD];exact az _
  rw[<-X4, <-GD];refine hK.out _ _ (HC.o _ X5) ?_;intro wM;clear hK xg K X4 GD
  try simp only[Act.put,sA,sB,sC]
  refine eE 10 rfl fun K hK=>?_;go_simp;refine(agF.o _ X5).mono ?_;rintro e w3⟨rfl,hu⟩;have HZB:=O (hu.keep kR id);have X3:=O (X5.trans hu);refine hK.out _ _ (HC.o _ X3.o) ?_;intro yb;clear hK wM hu K kR X5
  try simp only[Act.put,sA,sB,sC]
  refine aP 11 20 rfl ?_
  refine wpAnyH_take (i:=12) (oi:=⟨some 21,_,_,_,_,_⟩) (v:=.agg #[.bool r.cG.aD,.string r.cG.host,.int .i64 r.cG.port,.bool r.o.aD,.string r.o.host,.int .i64 r.o.port,.string r.path,.string r.query,.bool r.fq,.string m,.string hd,.int .i64 (now+mP ps)]) rfl af af af (fun _ _ _ h=>h) (uF rfl (.tmp 10) (.tmp 12) (.tmp 14) (.tmp 15) (.tmp 16) (.tmp 20) rfl r.cG.aD r.o.aD r.fq r.cG.host r.o.host r.path r.query m hd r.cG.port r.o.port (now+mP ps) rfl rfl rfl rfl rfl rfl) jR ?_
 all_goals
  try simp only[Act.put,sA,sB,sC]
  refine eE 14 rfl fun K hK=>?_;refine Df rfl 137 (.tmp 8) (.tmp 21) rfl bx #[.bool r.cG.aD,.string r.cG.host,.int .i64 r.cG.port,.bool r.o.aD,.string r.o.host,.int .i64 r.o.port,.string r.path,.string r.query,.bool r.fq,.string m,.string hd,.int .i64 (now+mP ps)] rfl rfl 137 D8 HZB.o af rfl bS ?_
  obtain⟨W,hW⟩:∃W,W=w3.setRow bx #[.bool r.cG.aD,.string r.cG.host,.int .i64 r.cG.port,.bool r.o.aD,.string r.o.host,.int .i64 r.o.port,.string r.path,.string r.query,.bool r.fq,.string m,.string hd,.int .i64 (now+mP ps)]:=⟨_,rfl⟩;have AV:Fr aX w W:=by rw[hW];exact jG X3.o rh _
  have X6:W.heap[bx]?=some (.cells x.toArray 137 (0,0)):=by rw[hW,HXC.o];exact nS HZB.o
  rw[<-hW];refine hK.out _ _ (HC.o _ AV) ?_;intro Ae;clear hK Ae K hW HZB X3
  try simp only[Act.put,List.setIfInBounds_toArray]
  refine wpAnyH_done af ?_ _;have HWF:=O AV;have Rn:=O X6;obtain⟨X8,X9,ZJ⟩:=cQ.form;rw[aj]at ZJ;subst ZJ;have HCT:=O (show aE 140 #[.slice X8 acc.length X9,.agg x.toArray] W fun e w'=>e=.returned (.bool (acc.any (fun q=>X.kM q)))/\Fr aX W w' from by rw[HX.o];exact JZ _ acc X W (bM cQ.at AV))
  have Z6:=O (show∀U,Fr (own (.slice X8 acc.length X9)) w U->U.heap[bp]?=some (.cells #[.slice X8 acc.length X9] 119 (0,0))from fun U hU=>hU.keep hp (fun hk=>by
   obtain⟨cc,e⟩:=cQ.T8 hk;rw[hp]at e;cases e))
  have P8:=O (fun U (hU:Fr aX w U)=>cQ.fr hU (fun _ _ h=>h));have d5:W.cell? ⟨bp,0,none⟩=some (.slice X8 acc.length X9):=by simp[World.cell?,Z6.o W (AV.mono (fun _ _ h=>absurd h id))]
  have Zp:(prog.info? 137).map (·.size)=some x.toArray.size:=by rw[bd];exact zZ lI
  have HXS:=O Zp;have oM:base<=W.heap.size:=by have h1:=AV.size;have h2:=bg hp;omega
  clear hp cQ AV X6 Zp;go_wp2_with (first|((with_reducible refine dt 23 ?_);refine aJ rfl 137 (.tmp 8) rfl bx rfl _ x.toArray (0,0) _ Rn.o underlying137 rfl HXS.o ?_)|fail)
  refine HCT.o.mono ?_;rintro e u2⟨rfl,nP⟩;have uk:=O (HWF.o.trans nP);have HX2:=O (nP.keep Rn.o id);have HO2:=O (P8.o u2 uk.o);have jX:=Z6.o u2 (uk.o.mono (fun _ _ h=>absurd h id));have d6:u2.cell? ⟨bp,0,none⟩=some (.slice X8 acc.length X9):=by simp[World.cell?,jX]
  have eC:base<=u2.heap.size:=by have:=nP.size;omega
  clear nP d5 HCT;cases jd:acc.any (fun q=>X.kM q)
  ·have Mr:=O (show pO acc X=acc++[X]by
    unfold pO;rw[ay];rw[J0,jd];decide)
   clear jd
   go_wp2_with (first|((with_reducible refine dt 27 ?_);refine aJ rfl 137 (.tmp 8) rfl bx rfl _ x.toArray (0,0) _ HX2.o underlying137 rfl HXS.o ?_)|(at_builtin;refine nA rfl _ _ 119 137 rfl 12 144 (.agg D8) underlying119 Mq rfl ag ag base (.slice X8 acc.length X9) (acc.map ep.cells) rfl (HO2.o.alloc _) u2.heap.size 1 x rfl lI wH.o (fun i u hi=>by rw[World.cell?_alloc_mark];simpa using hi) (by rw[aj];omega) bH ?_;intro v' w4 eV Ba;obtain⟨a4,c4,VK⟩:=eV.form;subst VK;have jN:Fr (own (.slice X8 acc.length X9)) u2 w4:=fg ((ae _ u2).alloc (.cells x.toArray 137)) Ba (fun k hk _=>hk);have uP:=Z6.o w4 ((uk.o.mono (fun _ _ h=>absurd h id)).step jN (fun _ _ h=>h));have k4:w4.cell? ⟨bp,0,none⟩=some (.slice X8 acc.length X9):=(by simp[World.cell?,uP]);have e4:w4.frozen? ⟨bp,0,none⟩=false:=(by simp[World.frozen?,uP]))|fail)
   clear EW;go_end0;refine⟨rfl,_,cg uP 0 _,?_,?_⟩
   ·rw[Mr.o,bI,cA,du, <-HX.o];have JC:OwnRows base 137 12 w4 (.slice a4 (acc.length+1) c4) (acc.map ep.cells++[x]):=by
     have h:=eV;rw[aM,aj,List.length_singleton]at h;exact h
    have kx:Fr (one bp) w4 (w4.setCell ⟨bp,0,none⟩ (.slice a4 (acc.length+1) c4)):=(ae (one bp) w4).setCell (p:=⟨bp,0,none⟩) (fun _=>rfl) _;refine JC.fr kx ?_;intro k hk e;obtain⟨cc,ek⟩:=JC.T8 hk;have e:k=bp:=e;rw[e,uP]at ek;cases ek
   ·exact(fN (S:=fun k=>k=bp\/own (.slice X8 acc.length X9) k) (uk.o.mono (fun _ _ h=>absurd h id)) jN (fun _ _ h=>Or.inr h)).setCell (p:=⟨bp,0,none⟩) (fun _=>Or.inl rfl) _
  ·have Mr:=O (show pO acc X=acc by
    unfold pO;rw[aB];rw[J0,jd])
   clear jd;go_wp2;go_end0;exact⟨rfl,_,jX,by rw[Mr.o];exact HO2.o,uk.o.mono (fun _ _ h=>absurd h id)⟩
theorem Uy{α:Type}{p:α->Bool}{l:List α}{x:α}(h:l[k]?=some x)(hp:p x=true)(hn:(l.take k).any p=false):l.find? p=some x:=by
 induction l generalizing k with
 |nil=>simp at h
 |cons a l ih =>
  cases k with
  |zero=>simp at h;subst h;rw[List.find?_cons_of_pos hp]
  |succ k =>
   simp only[List.getElem?_cons_succ]at h;simp only[List.take_succ_cons,List.any_cons,eA]at hn;rw[List.find?_cons_of_neg (by rw[hn.1];exact gC)];exact ih h hn.2
theorem Ql{α:Type}{p:α->Bool}{l:List α}(hn:l.any p=false):l.find? p=none:=by
 rw[List.find?_eq_none];intro x hx;have:=(fA.1 hn) x hx;exact this
def ahi(w:World)(gs:List (aU bG))(o:gz)(proxy:Bool)(aO:ai)(i:Value)(wr:World):Prop :=
 ∃k:Nat,k<=gs.length/\i=.int .i64 k/\(gs.take k).any (mM o proxy aO)=false/\Fr aX w wr
theorem Uz(base:Nat)(w:World)(b:Nat)(gv wv:Value)(gs:List (aU bG))(ws:List (bL bG))(o:gz)(proxy:Bool)(aO:ai)(h:dC base w b gv wv gs ws) :
  aE 78 #[.pointer (some ⟨b,0,none⟩),.agg o.cells.toArray,.bool proxy,.string aO] w (tA base w (gs.find? (mM o proxy aO))):=by
 have HSA:=O (fun r U=>Ju r o proxy aO U);unfold gz.cells at *
 have tK:=h.lt;have kO:=h.low;have oL:Fr aX w _:=((ae aX w).alloc (.cells #[.bool o.aD,.string o.host,.int .i64 o.port] 24)).alloc (.cells fc 133);have b1:=aC (w.alloc (.cells #[.bool o.aD,.string o.host,.int .i64 o.port] 24)) (.cells fc 133);rw[show(w.alloc (.cells #[.bool o.aD,.string o.host,.int .i64 o.port] 24)).heap.size=w.heap.size+1 from aS]at b1
 have b0:((w.alloc (.cells #[.bool o.aD,.string o.host,.int .i64 o.port] 24)).alloc (.cells fc 133)).heap[w.heap.size]?=some (.cells #[.bool o.aD,.string o.host,.int .i64 o.port] 24 (0,0)):=by
  rw[Below.heap_alloc _ _ _ aS];exact aC w _
 have h1:=h.dx oL;have d0:=h1.c0;obtain⟨av,cv,hgv⟩:=h1.bZ.form;subst hgv;have B0:=O b0;have B1:=O b1;clear b0 b1 h;go_enter func78,ntmps78;go_wp2_with fail
 clear d0;generalize (w.alloc (.cells _ 24)).alloc _=W at *
 go_loopw[17] (ahi W gs o proxy aO) (fun i _=>gs.length-(intOf i).toNat)
 case atStart=>exact⟨0,aW _,rfl,rfl,ae _ _⟩
 case round =>
  obtain⟨k,hk,rfl,jd,cR⟩:=hrel;have HAN:=O jd;clear jd;have h2:=h1.dx cR;have c0:=O (cR.keep B0.o id);have c1:=O (cR.keep B1.o id);have zB:w.heap.size+1<wr.heap.size:=bg c1.o;by_cases fE:k<gs.length
  ·have qm:(k:Int)<(gs.length:Int):=ab;obtain⟨bk,c,dF,se,r,ec,hr,hcell⟩:=h2.bZ.at fE;cases dF;unfold maxLen at se;have dT:=O (List.getElem?_eq_getElem fE);generalize gs[k]=g at dT hr;have hsg:Jt o proxy aO r.cells=mM o proxy aO g:=AO hr o proxy aO;obtain⟨x,hx⟩:∃x,x=r.cells:=⟨_,rfl⟩;have lI:x.length=16:=by rw[hx];rfl
   rw[<-hx]at hcell ec;have iQ:=fun W=>run_storeCells_new (P:=prog) W 133 #[.bool false,.string ⟨#[]⟩,.int .i64 0,.bool false,.string ⟨#[]⟩,.string ⟨#[]⟩,.int .i64 0,.string ⟨#[]⟩,.string ⟨#[]⟩,.string ⟨#[]⟩,.bool false,.string ⟨#[]⟩,.bool false,.slice none 0 0,.int .i64 0,.slice none 0 0] x (by rw[lI];rfl) ec;have ET:=O (show(prog.info? 133).map (·.size)=some x.length by rw[lI];kernel_rfl)
   have ix:Fr aX wr (wr.alloc (.cells x.toArray 133)):=(ae aX wr).alloc _;have td:=O (aC wr (.cells x.toArray 133));have HSM:=O (show∀U,aE 116 #[.agg x.toArray,.agg #[.bool o.aD,.string o.host,.int .i64 o.port],.bool proxy,.string aO] U fun e w'=>e=.returned (.bool (mM o proxy aO g))/\Fr aX U w' from fun U=>by
    have:=HSA.o r U;rw[hx];refine this.mono ?_;rintro e w' h';rw[<-hsg];exact h')
   have HR:=O (hr.mono (fun _ _ h=>h.dx ix));have si:=O (cR.trans ix);have KQ:wr.heap.size<(wr.alloc (.cells x.toArray 133)).heap.size:=aS;have HX:=O hx;have c0a:=O (ix.keep c0.o id);have c1a:=O (ix.keep c1.o id);clear hx ec hr hsg ix
   go_wp2_with (first|((with_reducible refine dt 20 ?_);refine bu rfl 133 (.tmp 19) rfl bk (k*16) rfl x _ hcell underlying133 rfl ET.o ?_)|((with_reducible refine dt 21 ?_);refine aJ rfl 133 (.tmp 11) rfl wr.heap.size rfl _ x.toArray (0,0) _ td.o underlying133 rfl (by rw[bd];exact ET.o) ?_)|((with_reducible refine dt 22 ?_);refine aJ rfl 24 (.tmp 5) rfl w.heap.size rfl _ _ (0,0) _ c0a.o underlying24 rfl af ?_)|fail)
   clear iQ hcell;generalize wr.alloc (.cells x.toArray 133)=V at *
   refine(HSM.o V).mono ?_;rintro e u1⟨rfl,dw⟩;cases oO:mM o proxy aO g
   ·have HN:=O (any_take_succ dT.o HAN.o oO);clear oO HSM;go_wp2;go_roundw
    case rel=>exact⟨k+1,ab,bh,HN.o,si.o.trans dw⟩
    case measure=>simp[intOf];omega
   ·have uJ:=O (Uy dT.o oO HAN.o);have amL:=O (dw.keep td.o id);have hub:base<=u1.heap.size:=by have:=dw.size;have:=h1.lt;have:=cR.size;omega
    have fF:=O (uf base r g u1 hub (HR.o.mono (fun _ _ h=>h.dx dw)));rw[<-HX.o]at fF;have c1b:=O (dw.keep c1a.o id);have lA:=O (oL.trans (si.o.trans dw));clear oO HSM;go_wp2_with (first|((with_reducible refine dt 26 ?_);refine aJ rfl 133 (.tmp 11) rfl wr.heap.size rfl _ x.toArray (0,0) _ amL.o underlying133 rfl (by rw[bd];exact ET.o) ?_)|fail)
    refine fF.o.mono ?_;intro e w3 LW;obtain⟨r3,rfl,rf,qq,iG⟩:=LW;have b3:=O (iG.keep c1b.o id);have Bd:(prog.info? 133).map (·.size)=some r3.cells.toArray.size:=af;have il:=lA.o.trans iG;obtain⟨y,hy⟩:∃y,y=r3.cells:=⟨_,rfl⟩;have HY:=O hy;rw[<-hy]at Bd qq ⊢;have DK:=O (cE qq);have Ew:=O (show fc.size=y.toArray.size by rw[hy];rfl);clear hy fF
    go_wp2_with (first|((with_reducible refine cU 133 ?_);refine aI rfl 133 (.tmp 8) (.tmp 27) rfl (w.heap.size+1) y.toArray rfl rfl _ fc b3.o Bd Ew.o DK.o ?_)|fail)
    have ru:rJ base w3 (one (w.heap.size+1)):=by
     rintro j rfl hj;exact⟨ab,fun c f e=>by rw[b3.o]at e;cases e⟩
    have kx:Fr (one (w.heap.size+1)) w3 (w3.setRow (w.heap.size+1) y.toArray):=(ae (one (w.heap.size+1)) w3).setRow (fun _=>rfl) _;refine aR (results_cell_tmp bB _ _ (w.heap.size+1) 133 y.toArray (0,0) _ rfl (aY w3 (w.heap.size+1) _ _ _ _ b3.o) underlying133 rfl Bd) rfl ?_;have CX:∀u∈r3.cells,u.oneCell'=true:=by rw[<-HY.o];exact qq
    rw[HY.o]at *
    refine⟨il.setRow (fun h=>absurd h ab) _,?_⟩;rw[uJ.o];exact⟨r3,rfl,rf.mono (fun _ _ h=>h.fr kx ru),CX⟩
  ·have qm:¬(k:Int)<(gs.length:Int):=ab;have uJ:=O (Ql (p:=mM o proxy aO) (l:=gs) (by have h:=HAN.o;rwa [aG ab]at h));have HF:=O (oL.trans cR);go_wp2_with (first|((with_reducible refine cU 133 ?_);refine aI rfl 133 (.tmp 8) (.tmp 29) rfl (w.heap.size+1) fc rfl rfl _ fc c1.o af rfl xK ?_)|fail)
   refine aR (results_cell_tmp bB _ _ (w.heap.size+1) 133 fc (0,0) _ rfl (aY wr (w.heap.size+1) _ _ _ _ c1.o) underlying133 rfl af) rfl ?_;refine⟨HF.o.setRow (fun h=>absurd h ab) _,?_⟩;rw[uJ.o];rfl
theorem GL(base:Nat)(w:World)(b:Nat)(v:Value)(ps:List ep)(h:eP base w b v ps)(hlen:ps.length<1000000) :
  aE 40 #[.pointer (some ⟨b,0,none⟩)] w fun e w'=>∃b' v',e=.returned (.pointer (some ⟨b',0,none⟩))/\eP w.heap.size w' b' v' ps/\Fr aX w w':=by
 have HL:=O (Gv base w b v ps h hlen);clear h;go_enter func40,ntmps40;go_wp2_with fail
 refine HL.o.mono ?_;rintro e u⟨v',rfl,ho,hf⟩;have ix:Fr aX u (u.alloc (.cells #[v'] 121)):=(ae aX u).alloc _;have HR:=O (show eP w.heap.size (u.alloc (.cells #[v'] 121)) u.heap.size v' ps from⟨hf.size,aC _ _,ho.fr ix (fun _ _ h=>h)⟩);have HF:=O (hf.trans ix);obtain⟨a',c',ua⟩:=ho.form;rw[aj]at ua;subst ua;clear ho HL hf ix;go_wp2;go_ret;exact⟨_,_,rfl,HR.o,HF.o⟩
