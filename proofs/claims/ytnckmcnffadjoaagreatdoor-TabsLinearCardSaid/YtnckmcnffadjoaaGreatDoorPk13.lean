/- Lemmas for the law's walk. -/
import Derived.Test.YtnckmcnffadjoaaGreatDoorPk12
set_option maxRecDepth 100000
set_option maxHeartbeats 16000000
set_option linter.unusedSimpArgs false
namespace Go.Proofs.YtnckmcnffadjoaaGreatDoor
open Go.Proofs.Tryz
open Go.RowKit
variable {base b c k g:Nat} {w:World} {a:eO} {r n:Bs} {v:Value} {ps:List jF} {p:jF}
def Aj(ws:List (bK bE))(m:bK bE):List (bK bE) :=
 let l:=(mB m.o m.proxy ws).1++[m]
 l.drop (l.length-8)
theorem VO(ws:List (bK bE))(m:bK bE):(Aj ws m).length<=8:=by
 unfold Aj;simp only[bM];omega
def G9(base:Nat)(w:World)(b:Nat)(gv wv:Value)(gs:List (aQ bE))(ws:List (bK bE))(e:Ending)(w':World):Prop :=
 e=.returned (.tuple #[])/\kM base w b gv wv gs ws w'
theorem On{base:Nat}{w3 w4:World}{b:Nat}{gv wv:Value}{gs:List (aQ bE)}{fs:List (bK bE)}{m:bK bE}{r3:bK Value}{rs:List (bK Value)}{gg cap:Nat}(h3:dH base w3 b gv wv gs fs)
  (ho:OwnRows base 133 13 w3 wv (rs.map bK.cells))(kJ:lq (bK.Reads (dx base w3)) rs fs)(rP:bK.Reads (dx base w3) r3 m)(qZ:∀u∈r3.cells,u.oneCell'=true)(kS:Fr (own wv) w3 w4)
  (fg:w4.ownsRow base 133 13 (.slice (some ⟨gg,0,none⟩) (fs.length+1) cap) (fs.length+1) ((rs.map bK.cells).flatten++r3.cells))(dS:wv.ownBlock=some gg\/w3.heap.size<=gg) :
  dH base (w4.setCell ⟨b,1,none⟩ (.slice (some ⟨gg,0,none⟩) (fs.length+1) cap)) b gv (.slice (some ⟨gg,0,none⟩) (fs.length+1) cap) gs (fs++[m]) /\
  Fr (dy b gv wv) w3 (w4.setCell ⟨b,1,none⟩ (.slice (some ⟨gg,0,none⟩) (fs.length+1) cap))/\∀k,dy b gv (.slice (some ⟨gg,0,none⟩) (fs.length+1) cap) k->dy b gv wv k\/w3.heap.size<=k:=by
 have lD:=h3.low;have vN:=kJ.len;have Em:sG base w3 (own wv):=ho.off (ay _) ag;have vQ:lq (bK.Reads (dx base w4)) (rs++[r3]) (fs++[m]) :=
  (kJ.mono (fun _ _ h=>h.mono (fun _ _ h=>h.fr kS Em))).app (.cons (rP.mono (fun _ _ h=>h.fr kS Em)) .nil)
 have CC:ks base w4 (.slice (some ⟨gg,0,none⟩) (fs.length+1) cap) (fs++[m]):=by
  refine⟨rs++[r3],⟨?_,?_⟩,vQ⟩
  ·intro x hx;rw[bI]at hx;rcases bL.1 hx with hx|hx
   ·exact ho.1 x hx
   ·simp at hx;subst hx;exact⟨rfl,qZ⟩
  ·rw[bI,ey,aK,ai,vN];simpa using fg
 have tH:=kS.keep h3.eN h3.wb;have qQ:gy base w4 gv gs:=h3.bG.fr kS Em (fun k hk hg=>h3.gw hk hg);have UU:Fr (dy b gv wv) w3 w4:=kS.mono (fun _ _ hk=>Or.inr (Or.inr hk));refine⟨dH.aei lD tH qQ CC,UU.setCell (p:=⟨b,1,none⟩) (fun _=>Or.inl rfl) _,?_⟩;rintro k(hk|hk|hk)
 ·exact Or.inl (Or.inl hk)
 ·exact Or.inl (Or.inr (Or.inl hk))
 ·have e:gg=k:=by simpa[own,Value.ownBlock]using hk
  subst e;rcases dS with dS|dS
  ·exact Or.inl (Or.inr (Or.inr dS))
  ·exact Or.inr dS
theorem nI.ret{w':World}{gv wv:Value}{gs:List (aQ bE)}{u:List (bK bE)×Option (bK bE)}{e:Ending}(h:nI base w b gv wv gs u e w'):∃v,e=.returned v:=by
 obtain⟨_,h⟩:=h;split at h
 ·exact⟨_,h⟩
 ·obtain⟨r,h,_⟩:=h;exact⟨_,h⟩
theorem VP{r:bK Value}{n:Nat}(h1:r.a.dom=.slice a n c):∀u∈r.cells,u.oneCell'=true:=by
 intro u hu;simp only[bK.cells,bC,cA,dY]at hu;rcases hu with rfl|rfl|rfl|rfl|rfl|rfl|rfl|rfl|rfl|rfl|rfl|rfl|rfl<;>first|rfl|(rw[h1];rfl)
theorem Oo(base:Nat)(w:World)(b:Nat)(gv wv:Value)(gs:List (aQ bE))(ws:List (bK bE))(g:bK Value)(m:bK bE)(h:dH base w b gv wv gs ws)(hg:g.Reads (dx base w) m)(Fq:ws.length<17179869184) :
  aB 58 #[.pointer (some ⟨b,0,none⟩),.agg g.cells.toArray] w (G9 base w b gv wv gs (Aj ws m)):=by
 obtain⟨x,hx⟩:∃x,x=g.cells:=⟨_,rfl⟩;have lM:x.length=13:=by rw[hx];rfl
 have sS:=h.lt;have lD:=h.low;obtain⟨ad,cd,yc⟩:=hg.2.2.2.2.2.2.2.2.2.2.rd.form;have pq:Fr aS w (w.alloc (.cells x.toArray 133)):=(ae aS w).alloc _;have h1:=h.dm pq;have Ge:=hg.mono (fun _ _ h=>h.dm pq);have qB:(w.alloc (.cells x.toArray 133)).heap[w.heap.size]?=some (.cells x.toArray 133 (0,0)):=aC _ _
 have nx:∀i u,g.cells[i]?=some u->(w.alloc (.cells x.toArray 133)).cell? ⟨w.heap.size,i,none⟩=some u:=fun i u hu=>by
  rw[<-hx]at hu;simp only[World.cell?,qB];simpa using hu
 have c0:=nx 0 _ rfl;have c1:=nx 1 _ rfl;have c2:=nx 2 _ rfl;have c3:=nx 3 _ rfl;have rO:=O (LN base _ b gv wv gs ws g.o g.proxy h1 ab);have ui:=O qB;have HG:=O Ge;have HX:=O hx;have HDV:=O yc;rw[<-hx];clear hg Ge qB nx hx yc;go_enter func58,ntmps58;go_wp2_with fail
 clear c0 c1 c2 c3;have aoG:w.heap.size<(w.alloc (.cells x.toArray 133)).heap.size:=aR;generalize w.alloc (.cells x.toArray 133)=W at *
 refine rO.o.mono ?_;intro e w2 hpd;obtain⟨rv,rfl⟩:=hpd.ret;obtain⟨⟨gv2,wv2,h2,dE,LG⟩,_⟩:=hpd;have nd:=h1.off;have hup:∀j,dy b gv wv j->j<w.heap.size:=fun j hj=>by
  rcases hj with hj|hj|hj
  ·omega
  ·obtain⟨cc,e⟩:=h.ur hj;exact bq e
  ·obtain⟨cc,e⟩:=h.wW hj;exact bq e
 have qt:¬dy b gv wv w.heap.size:=fun hh=>by have:=hup _ hh;omega
 have Af:=O (dE.keep ui.o qt);have xT:=HG.o.mono (fun _ _ h=>h.fr dE nd);have hll:=G7 g.o g.proxy ws;have jz:Fr (dy b gv wv) w w2:=gl (pq.mono (fun _ _ h=>absurd h id)) dE (fun _ _ h=>h);have VQ:∀j,dy b gv2 wv2 j->dy b gv wv j\/w.heap.size<j:=fun j hj=>by
  rcases LG j hj with h|h
  ·exact Or.inl h
  ·exact Or.inr ab
 obtain⟨fs,kR⟩:∃fs,fs=(mB g.o g.proxy ws).1:=⟨_,rfl⟩;rw[<-kR]at h2 hll;have D8:=O (show Aj ws m=(fs++[m]).drop (fs.length+1-8)by
  unfold Aj;rw[<-xT.1, <-xT.2.1, <-kR];simp)
 have yf:=xT.2.2.2.2.2.2.2.2.2.2;rw[HDV.o]at yf;have c12:w2.cell? ⟨w.heap.size,12,none⟩=some (.slice ad m.a.dom.length cd):=by
  have e:=HX.o;have hd:=HDV.o;have hu:x[12]?=some (.slice ad m.a.dom.length cd):=by rw[e, <-hd];rfl
  simp only[World.cell?,Af.o];simpa using hu
 have CL:=O (rY base _ _ _ yf);have T3:=O xT;have avx:w.heap.size<w2.heap.size:=bq Af.o;clear rO pq dE nd kR h1 xT yf LG ui HG aoG;go_wp2_with fail
 refine CL.o.mono ?_;rintro e w3⟨a3,c3,rfl,Ut,iz⟩;have Eo:=iz.keep Af.o id;have avy:w.heap.size<w3.heap.size:=bq Eo;have aiU:w3.cell? ⟨w.heap.size,12,none⟩=some (.slice ad m.a.dom.length cd):=by
  have e:=HX.o;have hd:=HDV.o;have hu:x[12]?=some (.slice ad m.a.dom.length cd):=by rw[e, <-hd];rfl
  simp only[World.cell?,Eo];simpa using hu
 have f12:w3.frozen? ⟨w.heap.size,12,none⟩=false:=by simp[World.frozen?,Eo]
 have rZ:sG base w3 (one w.heap.size):=by
  rintro j rfl _;exact⟨ab,fun c f e=>by rw[Eo]at e;cases e⟩
 have kR:Fr (one w.heap.size) w3 (w3.setCell ⟨w.heap.size,12,none⟩ (.slice a3 m.a.dom.length c3)):=(ae (one w.heap.size) w3).setCell (p:=⟨w.heap.size,12,none⟩) (fun _=>rfl) _;have Z8:¬dy b gv2 wv2 w.heap.size:=fun hh=>by
  rcases VQ _ hh with h|h
  ·exact qt h
  ·omega
 have h4:=(h2.dm iz).fr kR rZ (fun hh=>Z8 (Or.inl (by have e:b=w.heap.size:=hh;rw[e]))) (fun j hj hh=>Z8 (Or.inr (Or.inl (by have e:j=w.heap.size:=hh;rw[<-e];exact hj)))) (fun j hj hh=>Z8 (Or.inr (Or.inr (by have e:j=w.heap.size:=hh;rw[<-e];exact hj))));have wh:(g.ng (.slice a3 m.a.dom.length c3)).Reads (dx base (w3.setCell ⟨w.heap.size,12,none⟩ (.slice a3 m.a.dom.length c3))) m:=by
  have q:=T3.o;exact⟨q.1,q.2.1,q.2.2.1,q.2.2.2.1,q.2.2.2.2.1,q.2.2.2.2.2.1,q.2.2.2.2.2.2.1,q.2.2.2.2.2.2.2.1,q.2.2.2.2.2.2.2.2.1,q.2.2.2.2.2.2.2.2.2.1,Ut.fr kR rZ⟩
 have Es:∀u∈(g.ng (.slice a3 m.a.dom.length c3)).cells,u.oneCell'=true:=VP rfl;have vQ:=cq Eo 12 (.slice a3 m.a.dom.length c3);have hye:x.toArray.setIfInBounds 12 (.slice a3 m.a.dom.length c3)=(g.ng (.slice a3 m.a.dom.length c3)).cells.toArray:=by rw[HX.o];rfl
 rw[hye]at vQ;have hFV:Fr (dy b gv wv) w (w3.setCell ⟨w.heap.size,12,none⟩ (.slice a3 m.a.dom.length c3)):=(jz.trans (iz.mono (fun _ _ h=>absurd h id))).setCell (p:=⟨w.heap.size,12,none⟩) (fun hl=>absurd hl aR) _;have H4:=O h4;have Yw:=O wh;have acx:=O Es;have Z6:=O vQ;have hVl:w.heap.size<(w3.setCell ⟨w.heap.size,12,none⟩ (.slice a3 m.a.dom.length c3)).heap.size:=bq vQ
 clear rZ kR hye vQ h4 wh Es h2 Ut iz Eo CL T3 Z8 jz;obtain⟨av,cv,Vy⟩:=H4.o.waits.form;subst Vy;have d1:=H4.o.c1;have e1:=H4.o.free 1;have oH:∀i u,(g.ng (.slice a3 m.a.dom.length c3)).cells[i]?=some u->(w3.setCell ⟨w.heap.size,12,none⟩ (.slice a3 m.a.dom.length c3)).cell? ⟨w.heap.size,i,none⟩=some u:=fun i u hu=>by
  simp only[World.cell?,Z6.o];simpa using hu
 have x0:=oH 0 _ rfl;have x1:=oH 1 _ rfl;have x2:=oH 2 _ rfl;have x3:=oH 3 _ rfl;have x4:=oH 4 _ rfl;have x5:=oH 5 _ rfl;have x6:=oH 6 _ rfl;have x7:=oH 7 _ rfl;have x8:=oH 8 _ rfl;have x9:=oH 9 _ rfl;have Z2:=oH 10 _ rfl;have Z3:=oH 11 _ rfl;have x12:=oH 12 _ rfl;obtain⟨i0,qN,pD,ll,lF⟩:=info_parts G1;obtain⟨rs,ho,kJ⟩:=H4.o.waits;have HO:=O ho;have qj:=O kJ;have hbV:=H4.o.lt
 have cW:(w3.setCell ⟨w.heap.size,12,none⟩ (.slice a3 m.a.dom.length c3)).ownsRow base 133 13 (.slice av fs.length cv) fs.length (rs.map bK.cells).flatten:=by
  have hh:=ho.2;rw[ai,kJ.len]at hh;exact hh
 have AY:¬own (.slice av fs.length cv) b:=H4.o.wb;clear ho kJ oH;go_wp2_with fail
 clear c12 aiU f12;generalize w3.setCell ⟨w.heap.size,12,none⟩ (.slice a3 m.a.dom.length c3)=V at *
 simp only[bK.ng]at x0 x1 x2 x3 x4 x5 x6 x7 x8 x9 Z2 Z3 x12
 go_region_law ((with_reducible refine mX ⟨some 24,_,_,_,_,_⟩ ?_)
                refine step_append_lies _ bD _ _ _ bD base 133 i0 _ 13 168 underlying87 qN pD ll lF rfl ab (.slice av fs.length cv) fs.length _ bD (by repeat(first|exact cW|apply World.ownsRow.alloc|apply World.ownsRow.drew)) ⟨V.heap.size,0,none⟩ 1 1 (g.ng (.slice a3 m.a.dom.length c3)).cells bD bD (kY V (g.ng (.slice a3 m.a.dom.length c3)).cells _) acx.o ab ft ab bH (V.heap.size+1) aR ?_
                intro gg cap w5 wM jJ dS adM
                have rq:Fr (own (.slice av fs.length cv)) V w5:=fy (by repeat(first|exact ae _ _|apply aA|apply bB)) jJ (fun _ hk _=>hk)
                have k4:w5.cell? ⟨b,1,none⟩=some (.slice av fs.length cv):=(rq.cell (p:=⟨b,1,none⟩) hbV AY).trans d1
                have e4:w5.frozen? ⟨b,1,none⟩=false:=(rq.frozen (p:=⟨b,1,none⟩) hbV AY).trans e1)
 all_goals
  obtain⟨h5,hF5,RY⟩:=On (m:=m) H4.o HO.o qj.o Yw.o acx.o rq wM (dS.imp id (fun h=>ab));have d5:=h5.c1;have e5:=h5.free 1;clear x0 x1 x2 x3 x4 x5 x6 x7 x8 x9 Z2 Z3 x12 d1 e1 k4 e4 jJ wM cW rq;generalize w5.setCell ⟨b,1,none⟩ (.slice (some ⟨gg,0,none⟩) (fs.length+1) cap)=w6 at *
  have xN:(fs++[m]).length=fs.length+1:=aR;have Nn:=O xN;have yR:Fr (dy b gv wv) w w6:=hFV.step hF5 (fun k hk hb=>by
   rcases VQ k hb with h|h
   ·exact h
   ·omega)
  have FR:∀k,dy b gv2 (.slice (some ⟨gg,0,none⟩) (fs.length+1) cap) k->dy b gv wv k\/w.heap.size<=k:=fun k hk=>by
   rcases RY k hk with h|h
   ·rcases VQ k h with h|h
    ·exact Or.inl h
    ·exact Or.inr ab
   ·exact Or.inr ab
  by_cases h8:8<=fs.length
  ·have h8':(8:Int)<(fs.length:Int)+1:=ab;obtain⟨n,hn⟩:∃n:Nat,fs.length+1=n+8:=⟨fs.length+1-8,ab⟩;rw[<-xN]at h5;obtain⟨rs5,Nh,FT⟩:=h5.waits;have Oe:=O (show(rs5.map bK.cells).length=fs.length+1 by rw[ai,FT.len,xN]);have qV:=O (GZ base gg cap 0 n (rs5.map bK.cells) w6 (by rw[Oe.o, <-xN];exact Nh) ab (by rw[Oe.o];omega));have RZ:=O hn;rw[Oe.o]at qV;clear hn xN;go_wp2_with fail
   rw[show((fs.length:Int)+1-8)=(n:Int)from by have:=RZ.o;omega];refine qV.o.mono ?_;rintro e w7⟨rfl,zN,nL⟩;obtain⟨h7,TY,d7,e7⟩:=G8 (i:=0) (n:=n) h5 FT (by rw[Nn.o];exact zN) nL;rw[Nn.o,bz]at h7 TY;rw[Nn.o]at d7;rw[List.take_zero,List.nil_append]at h7;have H7:=O h7;have GB:=O TY;clear h7 TY qV zN FT Nh;go_wp2_with fail
   go_end0;refine⟨rfl,_,_,by rw[D8.o,show fs.length+1-8=n from by have:=RZ.o;omega];exact H7.o,yR.step GB.o (fun k hk hb=>by
    rcases FR k hb with h|h
    ·exact h
    ·omega),fun k hk=>FR k ?_⟩
   rcases hk with h|h|h
   ·exact Or.inl h
   ·exact Or.inr (Or.inl h)
   ·exact Or.inr (Or.inr h)
  ·have h8':¬(8:Int)<(fs.length:Int)+1:=ab;go_wp2_with fail
   go_end0;exact⟨rfl,_,_,by rw[D8.o,show fs.length+1-8=0 from ab,eI];exact h5,yR,FR⟩
theorem Am(base:Nat)(w:World)(b:Nat)(v:Value)(ps:List ez)(h:eU base w b v ps)(hlen:ps.length<1000000) :
  aB 149 #[.pointer (some ⟨b,0,none⟩)] w fun e w'=>∃v',e=.returned v'/\OwnRows w.heap.size 155 12 w' v' (ps.map ez.cells)/\Fr aS w w':=by
 obtain⟨av,cv,hv⟩:=h.form;subst hv;have c0:=h.c0;have hc:=O (aad _ _ w h.rows.at (by rw[ai];omega));clear h;go_enter func149,ntmps149;go_wp2_with fail
 refine hc.o.mono ?_;rintro e u⟨v',rfl,ho,hf⟩;obtain⟨a',c',sL⟩:=ho.form;subst sL;rw[ai]at ho;have HO:=O ho;clear ho;go_wp2;go_ret;exact⟨_,rfl,HO.o,hf⟩
def ez.vB(r:rm)(p:ez):Bool:=p.dt.lz r.dt&&(p.o.lz r.o&&(p.path.toList==r.path.toList&&p.query.toList==r.query.toList))
def ez.wZ(o:gG)(p:ez):Bool:=p.dt.lz o||p.o.lz o
theorem Ao(o:gG)(pa qu:aj)(o':gG)(pa' qu':aj)(w:World):(binOp .eql 34 (.agg #[.bool o.aG,.string o.host,.int .i64 o.port,.string pa,.string qu]) (.agg #[.bool o'.aG,.string o'.host,.int .i64 o'.port,.string pa',.string qu'])).run prog w=.ok (.bool (o.lz o'&&(pa.toList==pa'.toList&&qu.toList==qu'.toList))) w:=by
 go_simp;simp only[show∀(P:Prop) [Decidable P] (W:World) (b:Bool),(if P then(Result.ok (Value.bool b) W:Result Value)else .ok (.bool false) W)=.ok (.bool (decide P&&b)) W from fun P _ W b=>by by_cases h:P<;>simp[h]]
 congr 2
 rw[fj];simp only[gG.lz,cy,du,dX,and_assoc,iW]
theorem LV(p:ez)(r:gC Value)(hs:List ig)(br:Nat)(w:World)(hr:w.heap[br]?=some (.cells r.cells.toArray 37 (0,0))) :
  aB 136 #[.agg p.cells.toArray,.pointer (some ⟨br,0,none⟩)] w fun e w'=>e=.returned (.bool (p.vB (r.dW hs)))/\Fr aS w w':=by
 have heq:=jG p.dt r.dt;have heu:=Ao p.o p.path p.query r.o r.path r.query;have gX:Fr aS w (w.alloc (.cells p.cells.toArray 155)):=(ae aS w).alloc _;have g0:=gX.keep hr id;have g1:(w.alloc (.cells p.cells.toArray 155)).heap[w.heap.size]?=some (.cells p.cells.toArray 155 (0,0)):=aC _ _
 have hc:∀i u,r.cells[i]?=some u->(w.alloc (.cells p.cells.toArray 155)).cell? ⟨br,i,none⟩=some u:=fun i u hu=>by simp only[World.cell?,g0];simpa using hu
 have c1:=hc 1 _ rfl;have c2:=hc 2 _ rfl;have c3:=hc 3 _ rfl;have c4:=hc 4 _ rfl;have c5:=hc 5 _ rfl;have c6:=hc 6 _ rfl;have c7:=hc 7 _ rfl;have c8:=hc 8 _ rfl;have HF:=O gX;clear hr g0 g1 hc gX;unfold ez.cells at *
 cases e1:p.dt.lz r.dt
 ·have HR:=O (show p.vB (r.dW hs)=false by unfold ez.vB gC.dW;simp only;rw[e1];rfl);rw[e1]at heq;clear e1;go_enter func136,ntmps136;go_wp2;go_ret;exact⟨by rw[HR.o];rfl,HF.o⟩
 ·have HR:=O (show p.vB (r.dW hs)=(p.o.lz r.o&&(p.path.toList==r.path.toList&&p.query.toList==r.query.toList))by unfold ez.vB gC.dW;simp only;rw[e1];rfl);rw[e1]at heq;generalize (p.o.lz r.o&&(p.path.toList==r.path.toList&&p.query.toList==r.query.toList))=res at *
  clear e1;go_enter func136,ntmps136;go_wp2;go_ret;exact⟨by rw[HR.o];rfl,HF.o⟩
theorem LW(p:ez)(o:gG)(bo:Nat)(w:World)(ho:w.heap[bo]?=some (.cells #[.bool o.aG,.string o.host,.int .i64 o.port] 32 (0,0))) :
  aB 146 #[.agg p.cells.toArray,.pointer (some ⟨bo,0,none⟩)] w fun e w'=>e=.returned (.bool (p.wZ o))/\Fr aS w w':=by
 have heq:=jG p.dt o;have heo:=jG p.o o;have gX:Fr aS w (w.alloc (.cells p.cells.toArray 155)):=(ae aS w).alloc _;have g0:=gX.keep ho id;have c0:(w.alloc (.cells p.cells.toArray 155)).cell? ⟨bo,0,none⟩=some (.bool o.aG):=by simp[World.cell?,g0]
 have c1:(w.alloc (.cells p.cells.toArray 155)).cell? ⟨bo,1,none⟩=some (.string o.host):=by simp[World.cell?,g0]
 have c2:(w.alloc (.cells p.cells.toArray 155)).cell? ⟨bo,2,none⟩=some (.int .i64 o.port):=by simp[World.cell?,g0]
 have HF:=O gX;clear ho g0 gX;unfold ez.cells at *
 cases e1:p.dt.lz o
 ·have HR:=O (show p.wZ o=p.o.lz o by unfold ez.wZ;rw[e1];rfl);rw[e1]at heq;generalize p.o.lz o=res at *
  clear e1;go_enter func146,ntmps146;go_wp2;go_ret;exact⟨by rw[HR.o];rfl,HF.o⟩
 ·have HR:=O (show p.wZ o=true by unfold ez.wZ;rw[e1];rfl);rw[e1]at heq;clear e1;go_enter func146,ntmps146;go_wp2;go_ret;exact⟨by rw[HR.o];rfl,HF.o⟩
def xA(M:Nat)(ps:List jF):Prop:=∀p∈ps,p.1.length<=M/\p.2.length<=M
theorem yj(M:Nat):∀(f:Nat) (ps:List jF) (r:Bs) (q:List jF×Bs),r.length<=M->xA M ps->gZ f ps r=.ok q->xA M q.1
 |0,ps,r,q,_,hp,h=>by rw[gZ]at h;cases h;exact hp
 |f+1,ps,r,q,hr,hp,h=>by
  rw[gZ]at h;cases hq:lo ps r with
  |error e=>rw[hq]at h;cases h
  |ok p =>
   obtain⟨p,r1⟩:=p;rw[hq]at h;have hle:=uf hq;have hg:=oU r1;have hn:xA M (ps++[p]):=by
    intro a ha;rcases bL.1 ha with g|g
    ·exact hp a g
    ·simp at g;subst g;exact⟨ab,ab⟩
   simp only at h;split at h
   ·split at h
    ·exact yj M f _ _ q ab hn h
    ·cases h;exact hn
   ·cases h
structure nA.Le (M:Nat) (x:nA):Prop where
 scheme:x.scheme.length<=M
 token:x.token.length<=M
 zH:xA M x.params
theorem Ox{M:Nat}{x:nA}{z:Bs}(hr:r.length<=M)(h:pA k r=.ok (x,z)):x.Le M:=by
 have hw:=rE r;have hb:=lU (iD r);unfold pA at h;split at h
 ·cases h
 split at h
 ·cases h
 split at h
 ·cases h;exact⟨by show(ic r).length<=M;omega,aL _,fun p hp=>by cases hp⟩
 split at h
 ·cases h
 split at h
 ·rename_i q hq;obtain⟨t,z'⟩:=q;have:=Dn hq;cases h;exact⟨by show(ic r).length<=M;omega,by show t.length<=M;omega,fun p hp=>by cases hp⟩
 ·split at h
  ·cases h
  ·rename_i q hq;have:=yj M _ _ _ _ ab (fun p hp=>by cases hp) hq;cases h;exact⟨by show(ic r).length<=M;omega,aL _,this⟩
theorem Ap(M:Nat):∀(f:Nat) (acc:List nA) (r:Bs) (l:List nA),r.length<=M->(∀x∈acc,x.Le M)->kq f acc r=.ok l->∀x∈l,x.Le M
 |0,acc,r,l,_,ha,h=>by rw[kq]at h;cases h;exact ha
 |f+1,acc,r,l,hr,ha,h=>by
  rw[kq]at h;split at h
  ·cases h;exact ha
  ·cases ho:pA acc.length (iP r)with
   |error e=>rw[ho]at h;cases h
   |ok q =>
    obtain⟨x,r1⟩:=q;rw[ho]at h;have h1:=CW ho;have h2:=oU r;have hx:=Ox (M:=M) ab ho;refine Ap M f _ _ l ab (fun y hy=>?_) h;rcases bL.1 hy with g|g
    ·exact ha y g
    ·simp at g;subst g;exact hx
theorem Cl{l:List nA}(h:mJ r=.ok l):∀x∈l,x.Le r.length:=by
 unfold mJ at h;split at h
 ·cases h
 ·exact Ap _ _ _ _ _ (ay _) (fun x hx=>by cases hx) h
theorem Cm{l:List nA}(h:mJ r=.ok l):r.length<=3000:=by
 unfold mJ at h;split at h
 ·cases h
 ·omega
theorem Si{l:List nA}(h:mJ r=.ok l):∀x∈l,x.Fit:=by
 intro x hx;have h1:=Cl h x hx;have h2:=Cm h;have h3:=(KW h).1 x hx;exact⟨by have:=h1.scheme;omega,by have:=h1.token;omega,h3.sZ,fun p hp=>by have:=h1.zH p hp;omega⟩
theorem Strs.up{b':Nat}{ss:List aj}(h:Strs b' w v ss)(hb:base<=b'):Strs base w v ss:=by
 obtain⟨h1,h2⟩:=h;refine⟨h1,?_⟩;rcases h2 with h2|⟨g,cap,cur,hv,hg,r⟩
 ·exact Or.inl h2
 ·exact Or.inr ⟨g,cap,cur,hv,aE hb hg,r⟩
def lK(ps:List jF):Prop:=ps.length<=1000/\∀p∈ps,p.1.length<=100000/\p.2.length<=100000
def pH(ps:List jF)(n:Bs):List aj:=(yA ps n).map bA
theorem Sn(ps:List jF)(n:Bs):(pH ps n).map (·.data.toList)=yA ps n:=by
 unfold pH;rw[iv]
 conv=>rhs;rw[<-List.map_id (yA ps n)]
 exact List.map_congr_left (fun x _=>by simp[bA])
theorem EF(ps:List jF)(n:Bs):(yA ps n).length<=ps.length:=by unfold yA;rw[ai];exact bW _ _
theorem Wd{x:Bs}(h:x∈yA ps n):∃p∈ps,x=p.2:=by
 unfold yA at h;obtain⟨p,hp,rfl⟩:=bZ.1 h;exact⟨p,(fk.1 hp).1,rfl⟩
theorem We(h:ps[k]?=some p)(hs:dL p.1 n=true):pH (ps.take (k+1)) n=pH (ps.take k) n++[bA p.2]:=by
 unfold pH yA;rw[d_ h,cG];simp[hs]
theorem Sp(h:ps[k]?=some p)(hs:dL p.1 n=false):pH (ps.take (k+1)) n=pH (ps.take k) n:=by
 unfold pH yA;rw[d_ h,cG];simp[hs]
theorem Mb{sep:Bs}(ajr:sep.length=2):∀(l:List Bs) (M:Nat),(∀x∈l,x.length+2<=M)->(Lib.join l sep).length<=l.length*M
 |[],M,_=>by simp[Lib.join]
 |[x],M,h=>by have:=h x aR;simp[Lib.join];omega
 |x :: y :: l,M,h=>by
  have ih:=Mb ajr (y :: l) M (fun z hz=>h z (bN _ hz));have hx:=h x (cM ..);rw[Zg];simp only[aK,List.length_cons,ajr]at ih ⊢;rw[iu (l.length+1)];omega
theorem Hi(n:Bs)(hz:lK ps):(lH ps n).length<=100002000:=by
 unfold lH;have h:=Mb (sep:=[44,32]) rfl (yA ps n) 100002 (fun x hx=>by obtain⟨p,hp,rfl⟩:=Wd hx;have:=(hz.2 p hp).2;omega);have h2:=EF ps n;have h3:=hz.1;have h4:(yA ps n).length*100002<=1000*100002:=bR _ ab;omega
theorem Sq(base:Nat)(v:Value)(ss:List aj)(w:World)(hv:Strs base w v ss)(hn:ss.length<=1000)(hlen:(Lib.join (ss.map (·.data.toList)) [44,32]).length<=140737488355328) :
  aB 207 #[v,.string ⟨#[44,32]⟩] w fun e w'=>e=.returned (.string (bA (Lib.join (ss.map (·.data.toList)) [44,32])))/\Fr aS w w':=by
 rcases hv.at with ⟨a,c,rfl,rfl,_⟩|⟨bk,o,c,rfl,h1,h2,h3,h4⟩
 ·exact(strings_Join_none _ _ _ _).mono (by rintro e w1 ⟨rfl,rfl⟩;exact⟨rfl,ae _ _⟩)
 ·exact(strings_Join bk o c ss ⟨#[44,32]⟩ w h4 h3 ab h1 hlen).mono (by rintro e w1 ⟨rfl,hb⟩;exact⟨rfl,fx hb⟩)
def ajs(ps:List jF)(n:Bs)(w:World)(out t:Value)(wr:World):Prop :=
 ∃k:Nat,k<=ps.length/\t=.int .i64 k/\Strs w.heap.size wr out (pH (ps.take k) n)/\Fr aS w wr
def OB(ps:List jF)(n:Bs):Value:=.tuple #[.string (bA (lH ps n)),.bool (qM ps n)]
theorem Sr(v:Value)(ps:List jF)(name:aj)(w:World)(h:lX w v ps)(hz:lK ps)(hn:name.size<17592186044416) :
  aB 194 #[v,.string name] w fun e w'=>e=.returned (OB ps name.data.toList)/\Fr aS w w':=by
 obtain⟨av,cv,hv⟩:=h.form;subst hv;have HZ:=O hz;have Nj:=hz.1;clear hz;go_enter func194,ntmps194;go_wp2;go_loopw[6,11] (ajs ps name.data.toList w) (fun _ t _=>ps.length-(intOf t).toNat)
 case atStart=>exact⟨0,aL _,rfl,ld _ _,ae _ _⟩
 case round =>
  obtain⟨k,hk,rfl,ho,cP⟩:=hrel;obtain⟨ao,co,Ng⟩:=ho.form;by_cases fe:k<ps.length
  ·have pE:(k:Int)<(ps.length:Int):=ab;have dS:=O (List.getElem?_eq_getElem fe);have Yl:=O (HZ.o.2 _ (bO fe));generalize ps[k]=q at dS Yl;obtain⟨nm,vl⟩:=q;obtain⟨bk,of,rfl,h1,h2,c0,c1⟩:=lX.cells (bh h cP) dS.o;unfold maxLen at h2;simp only at c0 c1;obtain⟨wb,kj⟩:∃wb,wb=wr.alloc (.cells #[.string (bA nm),.string (bA vl)] 171):=⟨_,rfl⟩;have kC:Fr aS wr wb:=by rw[kj];exact(ae aS wr).alloc _
   have yd:wb.heap[wr.heap.size]?=some (.cells #[.string (bA nm),.string (bA vl)] 171 (0,0)):=by rw[kj];exact aC _ _
   have ri:=O kj;clear kj;go_wp2_with fail
   rw[<-ri.o];refine(mH (bA nm) name wb (by have h:=Yl.o.1;show nm.length<_;omega) hn).mono ?_;rintro e w8⟨rfl,rQ⟩;rw[fZ];have NQ:=O ((cP.trans kC).trans rQ);have TP:=ho.fr (kC.trans rQ) (fun _ h=>h.elim);rw[Ng]at TP;have TI:=O (show(pH (ps.take k) name.data.toList).length<=1000 from by
    unfold pH;rw[ai];have:=EF (ps.take k) name.data.toList;rw[aJ]at this;omega)
   have avU:w.heap.size<=w8.heap.size:=NQ.o.size;cases pz:dL nm name.data.toList
   ·have qt:=O (Sp dS.o pz);go_wp2;go_roundw
    case rel=>exact⟨k+1,ab,bg,by rw[qt.o];exact TP,NQ.o⟩
    case measure=>simp[intOf];omega
   ·have qt:=O (We dS.o pz);have hb8:=rQ.keep yd id;have k1:w8.cell? ⟨wr.heap.size,1,none⟩=some (.string (bA vl)):=by simp[World.cell?,hb8]
    generalize pH (ps.take k) name.data.toList=vs at *
    clear pz;go_wp2_with (at_builtin;refine nW rfl _ _ rfl w.heap.size (.slice ao vs.length co) vs rfl (by apply iM;exact TP) ⟨w8.heap.size,0,none⟩ 1 (bA vl) rfl (jC _ _ _ _) (by have:=TI.o;omega) bH ?_;intro v' w9 vD hg9)
    have Yk:=O ((NQ.o.alloc (.cells #[.string (bA vl)] 9)).fW hg9 (fun j hj=>TP.block j hj));go_roundw
    case rel=>exact⟨k+1,ab,bg,by rw[qt.o];exact vD,Yk.o⟩
    case measure=>simp[intOf];omega
  ·have pE:¬(k:Int)<(ps.length:Int):=ab;have Rh:ps.take k=ps:=aD ab;rw[Rh]at ho Ng;subst Ng;have TI:=EF ps name.data.toList;have TJ:(pH ps name.data.toList).length=(yA ps name.data.toList).length:=by unfold pH;rw[ai]
   have HJ:=O (show Lib.join ((pH ps name.data.toList).map (·.data.toList)) [44,32]=lH ps name.data.toList by rw[Sn];rfl);have HB:=O (show decide (0<(pH ps name.data.toList).length)=qM ps name.data.toList by
    unfold qM;rw[TJ];cases yA ps name.data.toList with
    |nil=>rfl
    |cons a l=>simp)
   have hJ:=O (Sq w.heap.size _ (pH ps name.data.toList) wr ho ab (by rw[HJ.o];have:=Hi name.data.toList HZ.o;omega));rw[HJ.o]at hJ;clear TJ TI;generalize hvs:pH ps name.data.toList=vs at *
   have HVS:=O hvs;clear hvs;go_wp2_with fail
   refine hJ.o.mono ?_;rintro e u⟨rfl,yL⟩;go_wp2;go_ret2;refine⟨?_,cP.trans yL⟩;unfold OB;rw[<-HB.o];rfl
theorem w_(v:Value)(ps:List jF)(n:Bs)(w:World)(h:lX w v ps)(hz:lK ps)(hn:n.length<1000)(s:aj)(b:Bool)(hs:lH ps n=s.data.toList)(hb:qM ps n=b) :
  aB 194 #[v,.string (bA n)] w fun e w'=>e=.returned (.tuple #[.string s,.bool b])/\Fr aS w w':=by
 refine(Sr v ps (bA n) w h hz (by show n.length<_;omega)).mono ?_;rintro e u⟨rfl,hf⟩;refine⟨?_,hf⟩;unfold OB;rw[fZ,hs,hb,Uy]
theorem uy(ps:List jF)(n:Bs)(hz:lK ps):∃s:aj,lH ps n=s.data.toList/\s.size<=100002000:=⟨bA (lH ps n),by rw[fZ],by show(lH ps n).length<=_;exact Hi n hz⟩
theorem aau(v:Value)(ps:List jF)(w:World)(h:lX w v ps)(hz:lK ps) :
  aB 133 #[v] w fun e w'=>e=.returned (.int .i64 (nu ps))/\Fr aS w w':=by
 obtain⟨s,hs,xS⟩:=uy ps ID hz;cases hb:qM ps ID
 ·have HA:=O (show nu ps=5 by unfold nu;rw[hb];rfl);have hG:=O (w_ v ps ID w h hz ag s false hs hb);clear hb hs;go_enter func133,ntmps133;go_wp2_with fail
  refine hG.o.mono ?_;rintro e u⟨rfl,yL⟩;go_wp2;go_ret;exact⟨by rw[HA.o];rfl,yL⟩
 ·have hG:=O (w_ v ps ID w h hz ag s true hs hb);have HS:=O (fun u=>KI s u ab);cases hd:oW s.data.toList
  ·have HA:=O (show nu ps=5 by unfold nu;rw[hb,hs,hd];rfl);have HD:=O hd;clear hb hs hd;go_enter func133,ntmps133;go_wp2_with fail
   refine hG.o.mono ?_;rintro e u⟨rfl,yL⟩;go_wp2_with fail
   refine(HS.o u).mono ?_;intro e u2 hp;obtain⟨rfl,dE⟩:=hp.no HD.o;go_wp2;go_ret;exact⟨by rw[HA.o];rfl,yL.trans dE⟩
  ·have HA:=O (show nu ps=min (zB s.data.toList) 600 by unfold nu;rw[hb,hs,hd];rfl);have HD:=O hd;have hE:=O (fun u=>HS.o u);clear hb hs hd;go_enter func133,ntmps133;go_wp2_with fail
   refine hG.o.mono ?_;rintro e u⟨rfl,yL⟩;go_wp2_with fail
   refine(HS.o u).mono ?_;intro e u2 hp;obtain⟨rfl,dE⟩:=hp.ok HD.o;go_wp2;go_ret;exact⟨by rw[HA.o];rfl,yL.trans dE⟩
def Hj(ps:List jF)(n:Bs)(w:World)(e:Ending)(w':World):Prop :=
 Fr aS w w'/\match lp ps n with
 |some ws=>∃v,e=.returned (.tuple #[v,.nilIface])/\Strs w.heap.size w' v (dT ws)
 |none=>e=.returned (.tuple #[.slice none 0 0,.iface 105 (.int .i64 3)])
theorem Ss(v:Value)(ps:List jF)(n:Bs)(w:World)(h:lX w v ps)(hz:lK ps)(hn:n.length<1000) :
  aB 129 #[v,.string (bA n)] w (Hj ps n w):=by
 obtain⟨s,hs,xS⟩:=uy ps n hz;have hG:=O (w_ v ps n w h hz hn s _ hs rfl);have HW:=O (show lp ps n=match ia s.data.toList with| .error _=>none| .ok l=>if 40<l.length then none else some l by unfold lp;rw[hs];cases ia s.data.toList<;>rfl);have HL:=O (fun u=>KB s u ab);clear hs;generalize qM ps n=b at hG;go_enter func129,ntmps129;go_wp2_with fail
 refine hG.o.mono ?_;rintro e u⟨rfl,yL⟩;go_wp2_with fail
 refine(HL.o u).mono ?_;rintro e u2⟨v2,er,rfl,dE,hm⟩;have Wf:=O (yL.trans dE);cases hl:ia s.data.toList with
 |error m =>
  rw[hl]at hm;obtain⟨rfl,g,rfl,hg⟩:=hm;have HN:=O (show lp ps n=none by rw[HW.o,hl]);clear hl;go_wp2;go_ret2;refine⟨Wf.o,?_⟩;rw[HN.o];exact rfl
 |ok ws =>
  rw[hl]at hm;by_cases Il:40<ws.length
  ·have HN:=O (show lp ps n=none by rw[HW.o,hl];show(if _ then _ else _)=_;rw[az Il]);have CA:if 40<ws.length then v2=.slice none 0 0/\Gf u2 er (some (4,none))else Strs u.heap.size u2 v2 (dT ws)/\er=.nilIface:=hm
   rw[az Il]at CA;obtain⟨rfl,rfl⟩:=CA;clear hl hm;go_wp2;go_ret2;refine⟨Wf.o,?_⟩;rw[HN.o];exact rfl
  ·have HN:=O (show lp ps n=some ws by rw[HW.o,hl];show(if _ then _ else _)=_;rw[aq Il]);have CA:if 40<ws.length then v2=.slice none 0 0/\Gf u2 er (some (4,none))else Strs u.heap.size u2 v2 (dT ws)/\er=.nilIface:=hm
   rw[aq Il]at CA;obtain⟨jx,rfl⟩:=CA;clear hl hm;have xI:=yL.size;go_wp2;go_ret2;refine⟨Wf.o,?_⟩;rw[HN.o];exact⟨_,rfl,jx.up xI⟩
structure dR where
 bG:List (aQ bE)
 waits:List (bK bE)
 book:List ez
 dJ:List (gG×Int)
structure dD where
 part:Nat->dR
 now:Int
structure iE where
 what:Int
 part:Int
 dt:gG
 o:gG
 path:aj
 query:aj
 method:aj
 eB:List ig
 f_:Bool
 body:aj
 proxy:Bool
 text:aj
 user:aj
 pass:aj
 bS:aj
 cert:Int
 all:Bool
 n:Int
structure kt where
 what:Int
 head:aj
 cert:Int
def iE.aN(o:iE):rm:=⟨o.dt,o.o,o.path,o.query,o.method,o.eB,o.f_⟩
def yV:dR:=⟨[],[],[],[]⟩
def yW:dD:=⟨fun _=>yV,0⟩
def dD.set(w:dD)(k:Nat)(p:dR):dD:={w with part:=fun i=>if i=k then p else w.part i}
def rep(n:Int):kt:=⟨n,.empty,0⟩
def iE.dig(o:iE)(g:aQ bE):n9:=⟨decide (g.a.scheme=3),g.a.cD,g.a.aM,g.a.bu,g.a.eJ,g.user,g.pass,jT o.method,nQ o.path o.query,o.body,o.bS,g.count.toNat⟩
def qW(g:aQ bE)(o:iE):Option aj :=
 if g.a.scheme=1 then
  (if 0<=Lib.indexByte g.user.data.toList 58 then none else if lQ g.user&&lQ g.pass then some (D6 g.user g.pass)else none)
 else if((g.a.scheme=2\/g.a.scheme=3)/\(g.a.eJ.data.toList=[]\/g.a.eJ.data.toList=mz\/g.a.eJ.data.toList=qz))/\(1<=g.count/\g.count<=4294967295)/\(zU g.a.scheme g.a.cz (o.dig g)).fair=true then
  some (bA (zU g.a.scheme g.a.cz (o.dig g)).text)
 else none
def vC(gs:List (aQ bE))(o:gG)(proxy:Bool)(aM:aj):List (aQ bE):=gs.filter (fun x=>!np o proxy aM x)
def iA(p:dR)(o:iE):dR×kt :=
 match vV p.bG o.o o.proxy o.path with
 |(gs,.error _)=>({p with bG:=gs},rep 2)
 |(gs,.ok g) =>
  match qW g o with
  |none=>({p with bG:=vC gs g.o g.proxy g.a.aM},rep 2)
  |some s=>({p with bG:=gs},⟨1,s,0⟩)
def aaf(gs:List (aQ bE))(o:gG)(proxy:Bool)(aM:aj):Option (aQ bE):=gs.find? (np o proxy aM)
def Ez(a:fQ bE)(g:Option (aQ bE)):Option (aQ bE) :=
 match g with
 |some g=>if a.cR&&(a.scheme==g.a.scheme&&a.bu.toList !=g.a.bu.toList)then some {g with a:=a,count:=0}else none
 |none=>none
def fP(p:dR)(o:iE):dR×kt :=
 match mJ o.text.data.toList with
 | .error _=>(p,rep 7)
 | .ok l =>
  if 0<(ju l).scheme then
   match Ez (ju l) (aaf p.bG o.o o.proxy (ju l).aM)with
   |some g=>({p with bG:=vU p.bG g},rep 1)
   |none=>({p with bG:=vC p.bG o.o o.proxy (ju l).aM,waits:=Aj p.waits ⟨o.o,o.proxy,o.path,ju l⟩},rep 3)
  else(p,rep 2)
def gi(p:dR)(o:iE):dR×kt :=
 match mB o.o o.proxy p.waits with
 |(ws,none)=>({p with waits:=ws},rep 2)
 |(ws,some x)=>({p with waits:=ws,bG:=vU p.bG ⟨x.o,x.proxy,o.user,o.pass,x.a,0,ob x.a x.proxy x.path⟩},rep 1)
def gU(p:dR)(now:Int)(o:iE):dR×kt :=
 match mW o.text.data.toList with
 | .error _=>(p,rep 7)
 | .ok l =>
  match uO o.aN (Gm o.dt.dW) l now with
  | .error _=>({p with book:=p.book.filter (fun q=>!q.vB o.aN)},rep 2)
  | .ok m=>({p with book:=uN p.book m now},rep 1)
def LX(o:gG)(l:List (gG×Int)):List (gG×Int):=l.filter (fun c=>!c.1.lz o)
def yg(l:List (gG×Int))(o:gG)(n:Int):List (gG×Int) :=
 (LX o l++[(o,n)]).drop ((LX o l++[(o,n)]).length-8)
def jY(p:dR)(o:iE):dR×kt :=
 if o.cert<0 then(p,rep 7)else({p with dJ:=yg p.dJ o.o o.cert},rep 1)
def Hc(p:dR)(o:iE):kt :=
 match p.dJ.find? (fun c=>c.1.lz o.o)with
 |some c=>⟨1,.empty,c.2⟩
 |none=>rep 3
def uY(p:dR)(o:gG):dR:={p with bG:=p.bG.filter (fun g=>!Yv o g),waits:=p.waits.filter (fun g=>!Oh o g)}
def Ou(p:dR)(o:gG):dR:={uY p o with book:=p.book.filter (fun q=>!q.wZ o),dJ:=LX o p.dJ}
def pG(p:dR)(o:iE):dR×kt :=
 if o.all&&o.what==9 then(yV,rep 1)
 else if o.what==9 then(Ou p o.o,rep 1)else(uY p o.o,rep 1)
def sJ(p:dR)(now:Int)(o:iE):dR×kt :=
 if o.what=1 then iA p o
 else if o.what=2 then fP p o
 else if o.what=3 then gi p o
 else if o.what=4 then(p,rep (if mM p.book o.aN now then 5 else 4))
 else if o.what=5 then gU p now o
 else if o.what=6 then(p,Hc p o)
 else if o.what=7 then jY p o
 else pG p o
def iE.VY(o:iE):Bool:=decide (0<=o.part)&&(decide (o.part<4)&&(Bc o.method.data.toList&&(decide (o.eB.length<=40)&&o.eB.all fun p=>Bc p.1.data.toList)))
def iE.right(o:iE):Bool :=
 decide (1<=o.what)&&(decide (o.what<=10)&&(o.VY&&(oa o.dt&&(oa o.o&&(decide (o.path.size<=200)&&(o.path.data.toList.head?==some 47&&decide (o.text.size<=3000)))))))
def iK(w:dD)(o:iE):dD×kt :=
 if o.right then
  if o.what=10 then
   if o.n<0\/1099511627776-w.now<o.n then(w,rep 7)else({w with now:=w.now+o.n},rep 1)
  else(w.set o.part.toNat (sJ (w.part o.part.toNat) w.now o).1,(sJ (w.part o.part.toNat) w.now o).2)
 else(w,rep 7)
def cO(o:iE):Nat×Bool :=
 if o.right then
  if o.what=1\/o.what=2\/o.what=3\/o.what=8 then(1,true)
  else if o.what=4 then(10,false)
  else if o.what=5 then(10,true)
  else if o.what=6 then(4,false)
  else if o.what=7 then(4,true)
  else if o.what=10 then(8,true)
  else(7,true)
 else(0,false)
def ux(base:Nat)(w:World)(b:Nat)(v:Value)(ps:List ez)(f:ez->Bool)(e:Ending)(w':World):Prop :=
 e=.returned (.int .i64 ((ps.length:Int)-((ps.filter (fun p=>!f p)).length:Int)))/\Ew base w b v (ps.filter (fun p=>!f p)) w'
theorem He{w1 w2:World}{ps ys:List ez}(h:eU base w1 b v ps)(dk:Fr aS w w1)(dE:Fr (own v) w1 w2)(J7:own (.slice a ys.length c)=own v)(ho:OwnRows base 155 12 w2 (.slice a ys.length c) (ys.map ez.cells)) :
  eU base (w2.setCell ⟨b,0,none⟩ (.slice a ys.length c)) b (.slice a ys.length c) ys/\Fr (iH b v) w (w2.setCell ⟨b,0,none⟩ (.slice a ys.length c))/\(∀k,iH b (.slice a ys.length c) k->iH b v k\/w.heap.size<=k)/\w2.cell? ⟨b,0,none⟩=some v/\w2.frozen? ⟨b,0,none⟩=false:=by
 have LU:=dE.keep h.eN h.nb;refine⟨pd h.low LU ho,?_,?_,by simp[World.cell?,LU],by simp[World.frozen?,LU]⟩
 ·exact(gl (S:=iH b v) (dk.mono (fun _ _ h=>absurd h id)) dE (fun _ _ h=>Or.inr h)).setCell (p:=⟨b,0,none⟩) (fun _=>Or.inl rfl) _
 ·rintro k(hk|hk)
  ·exact Or.inl (Or.inl hk)
  ·exact Or.inl (Or.inr (by rw[<-J7];exact hk))
theorem Ma(base:Nat)(w:World)(b:Nat)(v:Value)(ps:List ez)(r:gC Value)(hs:List ig)(h:eU base w b v ps)(hlen:ps.length<1000000) :
  aB 66 #[.pointer (some ⟨b,0,none⟩),.agg r.cells.toArray] w (ux base w b v ps (ez.vB (r.dW hs))):=by
 obtain⟨rc,uX⟩:∃rc,rc=r.cells.toArray:=⟨_,rfl⟩;have dk:Fr aS w (w.alloc (.cells rc 37)):=(ae _ _).alloc _;have lZ:(w.alloc (.cells rc 37)).heap[w.heap.size]?=some (.cells rc 37 (0,0)):=aC _ _;have h1:=h.dm dk;obtain⟨ak,ck,T6⟩:=h.form;subst T6;have RX:¬own (.slice ak ps.length ck) w.heap.size:=fun hk=>by have:=h.Ex hk;omega
 have hd:=qk base 136 #[.pointer (some ⟨w.heap.size,0,none⟩)] (fun y=>(Je y).vB (r.dW hs)) (.slice ak ps.length ck) (ps.map ez.cells) _ call136 (fun y hy u hu=>by
  obtain⟨q,_,rfl⟩:=bZ.1 hy;exact LV q r hs w.heap.size u (by rw[<-uX];exact hu.keep lZ RX)) h1.rows
 rw[rA ps (ez.vB (r.dW hs)),ai]at hd;obtain⟨ys,KZ⟩:∃ys,ys=ps.filter (fun p=>!p.vB (r.dW hs)):=⟨_,rfl⟩;have hyl:ys.length<=ps.length:=by rw[KZ];exact bW _ _
 unfold ux;rw[<-KZ]at hd ⊢;have HD:=O hd;have H1:=O h1;have ln:=O dk;have c0:=h1.c0;have e0:=h1.free 0;rw[<-uX];clear hd KZ h1 h dk lZ uX RX;go_enter func66,ntmps66;go_wp2_with fail
 refine HD.o.mono ?_;rintro e w2⟨a2,c2,rfl,rk,dE,J7⟩;obtain⟨g1,g2,g3,d0,e2⟩:=He H1.o ln.o dE J7 rk;have d3:=g1.c0;have G:=O (And.intro g1 (And.intro g2 g3));clear g1 g2 g3 rk dE J7 HD H1 ln c0 e0;go_wp2;go_ret;exact⟨rfl,_,G.o.1,G.o.2.1,G.o.2.2⟩
theorem Oy(base:Nat)(w:World)(b:Nat)(v:Value)(ps:List ez)(o:gG)(h:eU base w b v ps)(hlen:ps.length<1000000) :
  aB 71 #[.pointer (some ⟨b,0,none⟩),.agg o.cells.toArray] w (ux base w b v ps (ez.wZ o)):=by
 unfold gG.cells;have dk:Fr aS w (w.alloc (.cells #[.bool o.aG,.string o.host,.int .i64 o.port] 32)):=(ae _ _).alloc _;have lZ:(w.alloc (.cells #[.bool o.aG,.string o.host,.int .i64 o.port] 32)).heap[w.heap.size]?=some (.cells #[.bool o.aG,.string o.host,.int .i64 o.port] 32 (0,0)):=aC _ _;have h1:=h.dm dk;obtain⟨ak,ck,T6⟩:=h.form;subst T6
 have RX:¬own (.slice ak ps.length ck) w.heap.size:=fun hk=>by have:=h.Ex hk;omega
 have hd:=qk base 146 #[.pointer (some ⟨w.heap.size,0,none⟩)] (fun y=>(Je y).wZ o) (.slice ak ps.length ck) (ps.map ez.cells) _ call146 (fun y hy u hu=>by
  obtain⟨q,_,rfl⟩:=bZ.1 hy;exact LW q o w.heap.size u (hu.keep lZ RX)) h1.rows
 rw[rA ps (ez.wZ o),ai]at hd;obtain⟨ys,KZ⟩:∃ys,ys=ps.filter (fun p=>!p.wZ o):=⟨_,rfl⟩;have hyl:ys.length<=ps.length:=by rw[KZ];exact bW _ _
 unfold ux;rw[<-KZ]at hd ⊢;have HD:=O hd;have H1:=O h1;have ln:=O dk;have c0:=h1.c0;have e0:=h1.free 0;clear hd KZ h1 h dk lZ RX;go_enter func71,ntmps71;go_wp2_with fail
 refine HD.o.mono ?_;rintro e w2⟨a2,c2,rfl,rk,dE,J7⟩;obtain⟨g1,g2,g3,d0,e2⟩:=He H1.o ln.o dE J7 rk;have d3:=g1.c0;have G:=O (And.intro g1 (And.intro g2 g3));clear g1 g2 g3 rk dE J7 HD H1 ln c0 e0;go_wp2;go_ret;exact⟨rfl,_,G.o.1,G.o.2.1,G.o.2.2⟩
theorem Wh(a d g:Bool)(b e p q m h:aj)(c f t:Int):prog.built 155 [(0,.agg #[.bool a,.string b,.int .i64 c]),(1,.agg #[.bool d,.string e,.int .i64 f,.string p,.string q]),(2,.bool g),(3,.string m),(4,.string h),(5,.int .i64 t)]=some #[.bool a,.string b,.int .i64 c,.bool d,.string e,.int .i64 f,.string p,.string q,.bool g,.string m,.string h,.int .i64 t]:=af
theorem OD:(prog.info? 155).map (fun i=>(i.zero,i.size,i.bytes))=some (some (.agg FV),12,144):=af
theorem OwnRows.Wi{e:TypeId}{xs:dh}(h:OwnRows b e k w v xs)(hg:own v g):∃c,w.heap[g]?=some (.cells c e (0,0)):=by
 obtain⟨cap,cur,_,_,h2,_⟩:=h.open hg;exact⟨cur,h2⟩
theorem Wj(p:ez):∀u∈p.cells,u.oneCell'=true:=by unfold ez.cells;simp[Value.oneCell']
theorem Me(acc:List ez)(X:ez):acc.any (fun q=>q.lz X)=acc.any (fun q=>X.lz q):=by
 congr 1;funext q
 rw[fj,ez.xp,ez.xp];exact eq_comm
theorem Jj{P:Program}{ops:Array Oper}{S:World->Prop}{o:Oper}{a:Act}(hg:o.guard=none)(t:TypeId)(parts:Array (Nat×Operand))(ho:o.op=.build t parts)(cells:bT)
  (hf:P.built t (parts.map fun(i,x)=>(i,a.eval x)).toList=some cells):YieldsIf P ops S o (.agg cells) a :=
 Or.inl ⟨by simp[Region.wanted,hg],fun w _=>by
  unfold execOp;simp only[ho,Sem.run_bind,run_build w t _ cells hf,Result.andThen_ok];rfl⟩
theorem vE{ops:Array Oper}{S:World->Prop}{o:Oper}{a:Act}(hg:o.guard=none)(x0 x1 x2 x3 x4 x5:Operand)
  (ho:o.op=.build 155 #[(0,x0),(1,x1),(2,x2),(3,x3),(4,x4),(5,x5)])(b1 b2 b3:Bool)(s1 s2 s3 s4 s5 s6:aj)(i1 i2 i3:Int)
  (h0:a.eval x0=.agg #[.bool b1,.string s1,.int .i64 i1])(h1:a.eval x1=.agg #[.bool b2,.string s2,.int .i64 i2,.string s3,.string s4])(h2:a.eval x2=.bool b3)(h3:a.eval x3=.string s5)(h4:a.eval x4=.string s6)(h5:a.eval x5=.int .i64 i3) :
  YieldsIf prog ops S o (.agg #[.bool b1,.string s1,.int .i64 i1,.bool b2,.string s2,.int .i64 i2,.string s3,.string s4,.bool b3,.string s5,.string s6,.int .i64 i3]) a:=by
 refine Jj hg 155 _ ho _ ?_;simp only[eH,cF,dv,h0,h1,h2,h3,h4,h5];exact Wh _ _ _ _ _ _ _ _ _ _ _ _
theorem EG{P:Program}{ops:Array Oper}{a:Act}{w:World}{K:Act->World->Prop}{Q:Exit->Act->World->Prop}{E:Prop}{o:Oper}(zm:o.guard=none)(ty:TypeId)(x y:Operand)(ho:o.op=.store ty x y)
  (g:Nat)(cells:bT)(hx:a.eval x=.pointer (some ⟨g,0,none⟩))(hy:a.eval y=.agg cells)
  (t:TypeId)(old:bT)(hg:w.heap[g]?=some (.cells old t (0,0)))(hi:(P.info? ty).map (·.size)=some cells.size)
  (hold:old.size=cells.size)(h1:cells.all (·.oneCell')=true)
  (h:K (a.put o.dst undef) (w.setRow g cells)):if Region.wanted o (yielded ops a.tmps)=true then Oper.wp P o a w K Q else E:=by
 have hw:Region.wanted o (yielded ops a.tmps)=true:=by simp[Region.wanted,zm]
 rw[az hw];exact wp_store_row ty x y ho g cells hx hy t old hg hi hold h1 h
theorem je{S:dF}{a:World}(h:Fr S a w)(hg:a.heap.size<=g)(cs:bT):Fr S a (w.setRow g cs) :=
 ⟨h.os,h.tape,h.output,by show a.heap.size<=(w.setRow g cs).heap.size;rw[World.setRow];simp only[Array.size_modify];exact h.size,fun k hk hn=>(show(w.setRow g cs).heap[k]?=w.heap[k]? by simp[World.setRow,Array.getElem?_modify,show g≠k from ab]).trans (h.block k hk hn)⟩
theorem k_{old cs:bT}{t:TypeId}(h:w.heap[g]?=some (.cells old t (0,0))):(w.setRow g cs).heap[g]?=some (.cells cs t (0,0)):=by
 simp[World.setRow,Array.getElem?_modify,h]
theorem aav(base:Nat)(m hd:aj)(r:gC Value)(hs:List ig)(now:Int)(lv:Value)(ps:List jF)(acc:List ez)(v:Value)(br bn bl bp:Nat)(w:World)
  (hr:w.heap[br]?=some (.cells r.cells.toArray 37 (0,0)))(hn:w.heap[bn]?=some (.cells #[.int .i64 now] 3 (0,0)))(hl:w.heap[bl]?=some (.cells #[lv] 35 (0,0)))(hp:w.heap[bp]?=some (.cells #[v] 90 (0,0)))
  (NP:lX w lv ps)(hz:lK ps)(cW:OwnRows base 155 12 w v (acc.map ez.cells))(hb:base<=bp)(hlen:acc.length<1000000)(n0:0<=now)(n1:now<=1099511627776) :
  aB 132 #[.string m,.string hd,.pointer (some ⟨br,0,none⟩),.pointer (some ⟨bn,0,none⟩),.pointer (some ⟨bl,0,none⟩),.pointer (some ⟨bp,0,none⟩)] w fun e w'=>e=.returned (.tuple #[])/\∃v',w'.heap[bp]?=some (.cells #[v'] 90 (0,0))/\OwnRows base 155 12 w' v' ((qA acc ((r.dW hs).Dz (now+nu ps) m hd)).map ez.cells)/\Fr (fun k=>k=bp\/own v k) w w':=by
 have hag:=NJ ps;have aju:=O (show∀U,Fr aS w U->aB 133 #[lv] U fun e w'=>e=.returned (.int .i64 (nu ps))/\Fr aS U w' from fun U hU=>aau lv ps U (bh NP hU) hz);obtain⟨al,cl,hlv⟩:=dU NP;rw[ai]at hlv;subst hlv
 have HC:=O (show∀U,Fr aS w U->(U.cell? ⟨br,1,none⟩=some (.bool r.dt.aG)/\U.cell? ⟨br,2,none⟩=some (.string r.dt.host)/\U.cell? ⟨br,3,none⟩=some (.int .i64 r.dt.port)/\U.cell? ⟨br,4,none⟩=some (.bool r.o.aG)/\U.cell? ⟨br,5,none⟩=some (.string r.o.host)/\U.cell? ⟨br,6,none⟩=some (.int .i64 r.o.port)/\U.cell? ⟨br,7,none⟩=some (.string r.path)/\U.cell? ⟨br,8,none⟩=some (.string r.query)/\U.cell? ⟨br,11,none⟩=some (.bool r.f_)/\U.cell? ⟨bn,0,none⟩=some (.int .i64 now)/\U.cell? ⟨bl,0,none⟩=some (.slice al ps.length cl))from fun U hU=>by
  have j:=hU.keep hr id;have hc:∀i u,r.cells[i]?=some u->U.cell? ⟨br,i,none⟩=some u:=fun i u hu=>by simp only[World.cell?,j];simpa using hu
  exact⟨hc 1 _ rfl,hc 2 _ rfl,hc 3 _ rfl,hc 4 _ rfl,hc 5 _ rfl,hc 6 _ rfl,hc 7 _ rfl,hc 8 _ rfl,hc 11 _ rfl,by simp[World.cell?,hU.keep hn id],by simp[World.cell?,hU.keep hl id]⟩)
 obtain⟨X,hX⟩:∃X,X=(r.dW hs).Dz (now+nu ps) m hd:=⟨_,rfl⟩;obtain⟨x,hx⟩:∃x,x=X.cells:=⟨_,rfl⟩;have lM:x.length=12:=by rw[hx];rfl
 have xJ:=O (show∀u∈x,u.oneCell'=true from by rw[hx];exact Wj X);have GV:=wJ x #[.bool false,.string ⟨#[]⟩,.int .i64 0,.bool false,.string ⟨#[]⟩,.int .i64 0,.string ⟨#[]⟩,.string ⟨#[]⟩,.bool false,.string ⟨#[]⟩,.string ⟨#[]⟩,.int .i64 0] (by rw[lM];rfl);have HX:=O hx
 have HXC:=O (show x.toArray= #[.bool r.dt.aG,.string r.dt.host,.int .i64 r.dt.port,.bool r.o.aG,.string r.o.host,.int .i64 r.o.port,.string r.path,.string r.query,.bool r.f_,.string m,.string hd,.int .i64 (now+nu ps)]by rw[hx,hX];rfl);rw[<-hX];clear hX hx;have ash:IntKind.i64.wrap (now+nu ps)=now+nu ps:=by rw[IntWalk.i64_left];exact IntWalk.wrap64_in _ ab
 clear hr hn hl NP hz;go_enter func132,ntmps132;go_wp2_with fail
 refine wp_region_held_drew (S:=(fun U=>U.cell? ⟨br,1,none⟩=some (.bool r.dt.aG)/\U.cell? ⟨br,2,none⟩=some (.string r.dt.host)/\U.cell? ⟨br,3,none⟩=some (.int .i64 r.dt.port)/\U.cell? ⟨br,4,none⟩=some (.bool r.o.aG)/\U.cell? ⟨br,5,none⟩=some (.string r.o.host)/\U.cell? ⟨br,6,none⟩=some (.int .i64 r.o.port)/\U.cell? ⟨br,7,none⟩=some (.string r.path)/\U.cell? ⟨br,8,none⟩=some (.string r.query)/\U.cell? ⟨br,11,none⟩=some (.bool r.f_)/\U.cell? ⟨bn,0,none⟩=some (.int .i64 now)/\U.cell? ⟨bl,0,none⟩=some (.slice al ps.length cl))) af (HC.o _ (ae aS w).drew) ?_
 intro zl;refine aU 0 9 rfl ?_;refine aU 1 10 rfl ?_;refine aU 2 11 rfl ?_;refine aU 3 12 rfl ?_;refine aU 4 13 rfl ?_;refine aU 5 14 rfl ?_;refine aU 6 15 rfl ?_;refine aU 7 16 rfl ?_;refine aU 8 17 rfl ?_;refine aU 9 18 rfl ?_;refine wpAnyH_ready (rs:=[10,13]) af aR ?_;refine AllReadyH.cons rfl (fun K hK=>?hA) (AllReadyH.cons rfl (fun K hK=>?hB) AllReadyH.nil)
 case' hA =>
  go_simp;refine(aju.o _ (ae aS w).drew).mono ?_;rintro e u⟨rfl,hu⟩;have HU:=O (show Fr aS w u from((ae aS w).drew).trans hu);refine hK.out _ _ (HC.o _ HU.o) ?_;intro xF;clear hK zl hu K
  try simp only[Act.put,sA,sB,sC]
  refine aU 11 20 rfl ?_
  refine wpAnyH_take (i:=12) (oi:=⟨some 21,_,_,_,_,_⟩) (v:=.agg #[.bool r.dt.aG,.string r.dt.host,.int .i64 r.dt.port,.bool r.o.aG,.string r.o.host,.int .i64 r.o.port,.string r.path,.string r.query,.bool r.f_,.string m,.string hd,.int .i64 (now+nu ps)]) rfl af af af (fun _ _ _ h=>h) (vE rfl (.tmp 10) (.tmp 12) (.tmp 14) (.tmp 15) (.tmp 16) (.tmp 20) rfl r.dt.aG r.o.aG r.f_ r.dt.host r.o.host r.path r.query m hd r.dt.port r.o.port (now+nu ps) rfl rfl rfl rfl rfl rfl) jH ?_
  try simp only[Act.put,sA,sB,sC]
  refine eR 13 rfl fun K hK=>?_;go_simp;obtain⟨bx,Jk⟩:∃bx,bx=u.heap.size:=⟨_,rfl⟩;obtain⟨w3,U_⟩:∃w3,w3=u.alloc (.cells FV 155):=⟨_,rfl⟩;have HZB:=O (show w3.heap[bx]?=some (.cells FV 155 (0,0))from by rw[U_,Jk];exact aC _ _);have HW3:=O (show Fr aS w w3 from by rw[U_];exact HU.o.alloc _);have qB:w.heap.size<=bx:=by rw[Jk];exact HU.o.size
  rw[<-U_, <-Jk];refine hK.out _ _ (HC.o _ HW3.o) ?_;intro Aw;clear hK xF K U_ Jk
 case' hB =>
  go_simp;obtain⟨bx,Jk⟩:∃bx,bx=w.heap.size:=⟨_,rfl⟩;obtain⟨w2,aax⟩:∃w2,w2=(w.alloc (.cells FV 155)).drew:=⟨_,rfl⟩;have lF:w2.heap[bx]?=some (.cells FV 155 (0,0)):=by rw[aax,Jk];exact aC _ _
  have aay:Fr aS w w2:=by rw[aax];exact((ae _ _).alloc _).drew
  have qB:w.heap.size<=bx:=by rw[Jk];exact ay _
  rw[<-aax, <-Jk];refine hK.out _ _ (HC.o _ aay) ?_;intro xF;clear hK zl K aax Jk
  try simp only[Act.put,sA,sB,sC]
  refine eR 10 rfl fun K hK=>?_;go_simp;refine(aju.o _ aay).mono ?_;rintro e w3⟨rfl,hu⟩;have HZB:=O (hu.keep lF id);have HW3:=O (aay.trans hu);refine hK.out _ _ (HC.o _ HW3.o) ?_;intro Aw;clear hK xF hu K lF aay
  try simp only[Act.put,sA,sB,sC]
  refine aU 11 20 rfl ?_
  refine wpAnyH_take (i:=12) (oi:=⟨some 21,_,_,_,_,_⟩) (v:=.agg #[.bool r.dt.aG,.string r.dt.host,.int .i64 r.dt.port,.bool r.o.aG,.string r.o.host,.int .i64 r.o.port,.string r.path,.string r.query,.bool r.f_,.string m,.string hd,.int .i64 (now+nu ps)]) rfl af af af (fun _ _ _ h=>h) (vE rfl (.tmp 10) (.tmp 12) (.tmp 14) (.tmp 15) (.tmp 16) (.tmp 20) rfl r.dt.aG r.o.aG r.f_ r.dt.host r.o.host r.path r.query m hd r.dt.port r.o.port (now+nu ps) rfl rfl rfl rfl rfl rfl) jH ?_
 all_goals
  try simp only[Act.put,sA,sB,sC]
  refine eR 14 rfl fun K hK=>?_;refine EG rfl 155 (.tmp 8) (.tmp 21) rfl bx #[.bool r.dt.aG,.string r.dt.host,.int .i64 r.dt.port,.bool r.o.aG,.string r.o.host,.int .i64 r.o.port,.string r.path,.string r.query,.bool r.f_,.string m,.string hd,.int .i64 (now+nu ps)] rfl rfl 155 FV HZB.o af rfl cC ?_
  obtain⟨W,hW⟩:∃W,W=w3.setRow bx #[.bool r.dt.aG,.string r.dt.host,.int .i64 r.dt.port,.bool r.o.aG,.string r.o.host,.int .i64 r.o.port,.string r.path,.string r.query,.bool r.f_,.string m,.string hd,.int .i64 (now+nu ps)]:=⟨_,rfl⟩;have Cp:Fr aS w W:=by rw[hW];exact je HW3.o qB _
  have hWX:W.heap[bx]?=some (.cells x.toArray 155 (0,0)):=by rw[hW,HXC.o];exact k_ HZB.o
  rw[<-hW];refine hK.out _ _ (HC.o _ Cp) ?_;intro BC;clear hK BC K hW HZB HW3
  try simp only[Act.put,List.setIfInBounds_toArray]
  refine wpAnyH_done af ?_ _;have HWF:=O Cp;have T4:=O hWX;obtain⟨avv,cvv,hvv⟩:=cW.form;rw[ai]at hvv;subst hvv;have HCT:=O (show aB 134 #[.slice avv acc.length cvv,.agg x.toArray] W fun e w'=>e=.returned (.bool (acc.any (fun q=>X.lz q)))/\Fr aS W w' from by rw[HX.o];exact Mc _ acc X W (bh cW.at Cp))
  have HBP:=O (show∀U,Fr (own (.slice avv acc.length cvv)) w U->U.heap[bp]?=some (.cells #[.slice avv acc.length cvv] 90 (0,0))from fun U hU=>hU.keep hp (fun hk=>by
   obtain⟨cc,e⟩:=cW.Wi hk;rw[hp]at e;cases e))
  have Sv:=O (fun U (hU:Fr aS w U)=>cW.fr hU (fun _ _ h=>h));have d5:W.cell? ⟨bp,0,none⟩=some (.slice avv acc.length cvv):=by simp[World.cell?,HBP.o W (Cp.mono (fun _ _ h=>absurd h id))]
  have hxs:(prog.info? 155).map (·.size)=some x.toArray.size:=by rw[aX];exact Bv lM
  have HXS:=O hxs;have oJ:base<=W.heap.size:=by have h1:=Cp.size;have h2:=bq hp;omega
  clear hp cW Cp hWX hxs;go_wp2_with (first|((with_reducible refine dr 23 ?_);refine aI rfl 155 (.tmp 8) rfl bx rfl _ x.toArray (0,0) _ T4.o underlying155 rfl HXS.o ?_)|fail)
  refine HCT.o.mono ?_;rintro e u2⟨rfl,nC⟩;have t_:=O (HWF.o.trans nC);have QM:=O (nC.keep T4.o id);have HO2:=O (Sv.o u2 t_.o);have kJ:=HBP.o u2 (t_.o.mono (fun _ _ h=>absurd h id));have d6:u2.cell? ⟨bp,0,none⟩=some (.slice avv acc.length cvv):=by simp[World.cell?,kJ]
  have eG:base<=u2.heap.size:=by have:=nC.size;omega
  clear nC d5 HCT;cases jv:acc.any (fun q=>X.lz q)
  ·have OE:=O (show qA acc X=acc++[X]by
    unfold qA;rw[aq];rw[Me,jv];decide)
   clear jv
   go_wp2_with (first|((with_reducible refine dr 27 ?_);refine aI rfl 155 (.tmp 8) rfl bx rfl _ x.toArray (0,0) _ QM.o underlying155 rfl HXS.o ?_)|(at_builtin;refine nY rfl _ _ 90 155 rfl 12 144 (.agg FV) underlying90 OD rfl ag ag base (.slice avv acc.length cvv) (acc.map ez.cells) rfl (HO2.o.alloc _) u2.heap.size 1 x rfl lM xJ.o (fun i u hi=>by rw[World.cell?_alloc_mark];simpa using hi) (by rw[ai];omega) bH ?_;intro v' w4 fg CC;obtain⟨a4,c4,PZ⟩:=fg.form;subst PZ;have j6:Fr (own (.slice avv acc.length cvv)) u2 w4:=fy ((ae _ u2).alloc (.cells x.toArray 155)) CC (fun k hk _=>hk);have vQ:=HBP.o w4 ((t_.o.mono (fun _ _ h=>absurd h id)).step j6 (fun _ _ h=>h));have k4:w4.cell? ⟨bp,0,none⟩=some (.slice avv acc.length cvv):=(by simp[World.cell?,vQ]);have e4:w4.frozen? ⟨bp,0,none⟩=false:=(by simp[World.frozen?,vQ]))|fail)
   clear GV;go_end0;refine⟨rfl,_,cq vQ 0 _,?_,?_⟩
   ·rw[OE.o,bI,cF,dv, <-HX.o];have LL:OwnRows base 155 12 w4 (.slice a4 (acc.length+1) c4) (acc.map ez.cells++[x]):=by
     have h:=fg;rw[aK,ai,List.length_singleton]at h;exact h
    have kR:Fr (one bp) w4 (w4.setCell ⟨bp,0,none⟩ (.slice a4 (acc.length+1) c4)):=(ae (one bp) w4).setCell (p:=⟨bp,0,none⟩) (fun _=>rfl) _;refine LL.fr kR ?_;intro k hk e;obtain⟨cc,ek⟩:=LL.Wi hk;have e:k=bp:=e;rw[e,vQ]at ek;cases ek
   ·exact(gl (S:=fun k=>k=bp\/own (.slice avv acc.length cvv) k) (t_.o.mono (fun _ _ h=>absurd h id)) j6 (fun _ _ h=>Or.inr h)).setCell (p:=⟨bp,0,none⟩) (fun _=>Or.inl rfl) _
  ·have OE:=O (show qA acc X=acc by
    unfold qA;rw[az];rw[Me,jv])
   clear jv;go_wp2;go_end0;exact⟨rfl,_,kJ,by rw[OE.o];exact HO2.o,t_.o.mono (fun _ _ h=>absurd h id)⟩
theorem WM{α:Type}{p:α->Bool}{l:List α}{x:α}(h:l[k]?=some x)(hp:p x=true)(hn:(l.take k).any p=false):l.find? p=some x:=by
 induction l generalizing k with
 |nil=>simp at h
 |cons a l ih =>
  cases k with
  |zero=>simp at h;subst h;rw[List.find?_cons_of_pos hp]
  |succ k =>
   simp only[List.getElem?_cons_succ]at h;simp only[List.take_succ_cons,List.any_cons,eP]at hn;rw[List.find?_cons_of_neg (by rw[hn.1];exact gQ)];exact ih h hn.2
theorem SM{α:Type}{p:α->Bool}{l:List α}(hn:l.any p=false):l.find? p=none:=by
 rw[List.find?_eq_none];intro x hx;have:=(fc.1 hn) x hx;exact this
def aj8(w:World)(gs:List (aQ bE))(o:gG)(proxy:Bool)(aM:aj)(i:Value)(wr:World):Prop :=
 ∃k:Nat,k<=gs.length/\i=.int .i64 k/\(gs.take k).any (np o proxy aM)=false/\Fr aS w wr
theorem WN(base:Nat)(w:World)(b:Nat)(gv wv:Value)(gs:List (aQ bE))(ws:List (bK bE))(o:gG)(proxy:Bool)(aM:aj)(h:dH base w b gv wv gs ws) :
  aB 56 #[.pointer (some ⟨b,0,none⟩),.agg o.cells.toArray,.bool proxy,.string aM] w (uq base w (gs.find? (np o proxy aM))):=by
 have Yh:=O (fun r U=>LD r o proxy aM U);unfold gG.cells at *
 have sS:=h.lt;have lD:=h.low;have pq:Fr aS w _:=((ae aS w).alloc (.cells #[.bool o.aG,.string o.host,.int .i64 o.port] 32)).alloc (.cells eY 114);have b1:=aC (w.alloc (.cells #[.bool o.aG,.string o.host,.int .i64 o.port] 32)) (.cells eY 114);rw[show(w.alloc (.cells #[.bool o.aG,.string o.host,.int .i64 o.port] 32)).heap.size=w.heap.size+1 from aR]at b1
 have b0:((w.alloc (.cells #[.bool o.aG,.string o.host,.int .i64 o.port] 32)).alloc (.cells eY 114)).heap[w.heap.size]?=some (.cells #[.bool o.aG,.string o.host,.int .i64 o.port] 32 (0,0)):=by
  rw[Below.heap_alloc _ _ _ aR];exact aC w _
 have h1:=h.dm pq;have d0:=h1.c0;obtain⟨av,cv,hgv⟩:=h1.bG.form;subst hgv;have B0:=O b0;have B1:=O b1;clear b0 b1 h;go_enter func56,ntmps56;go_wp2_with fail
 clear d0;generalize (w.alloc (.cells _ 32)).alloc _=W at *
 go_loopw[17] (aj8 W gs o proxy aM) (fun i _=>gs.length-(intOf i).toNat)
 case atStart=>exact⟨0,aL _,rfl,rfl,ae _ _⟩
 case round =>
  obtain⟨k,hk,rfl,jv,cP⟩:=hrel;have HAN:=O jv;clear jv;have h2:=h1.dm cP;have c0:=O (cP.keep B0.o id);have c1:=O (cP.keep B1.o id);have yS:w.heap.size+1<wr.heap.size:=bq c1.o;by_cases fe:k<gs.length
  ·have pE:(k:Int)<(gs.length:Int):=ab;obtain⟨bk,c,dE,tu,r,ef,hr,hcell⟩:=h2.bG.at fe;cases dE;unfold maxLen at tu;have dS:=O (List.getElem?_eq_getElem fe);generalize gs[k]=g at dS hr;have hsg:LC o proxy aM r.cells=np o proxy aM g:=Ck hr o proxy aM;obtain⟨x,hx⟩:∃x,x=r.cells:=⟨_,rfl⟩;have lM:x.length=16:=by rw[hx];rfl
   rw[<-hx]at hcell ef;have jx:=fun W=>run_storeCells_new (P:=prog) W 114 #[.bool false,.string ⟨#[]⟩,.int .i64 0,.bool false,.string ⟨#[]⟩,.string ⟨#[]⟩,.int .i64 0,.string ⟨#[]⟩,.string ⟨#[]⟩,.string ⟨#[]⟩,.bool false,.string ⟨#[]⟩,.bool false,.slice none 0 0,.int .i64 0,.slice none 0 0] x (by rw[lM];rfl) ef;have Ed:=O (show(prog.info? 114).map (·.size)=some x.length by rw[lM];kernel_rfl)
   have gX:Fr aS wr (wr.alloc (.cells x.toArray 114)):=(ae aS wr).alloc _;have ui:=O (aC wr (.cells x.toArray 114));have HSM:=O (show∀U,aB 109 #[.agg x.toArray,.agg #[.bool o.aG,.string o.host,.int .i64 o.port],.bool proxy,.string aM] U fun e w'=>e=.returned (.bool (np o proxy aM g))/\Fr aS U w' from fun U=>by
    have:=Yh.o r U;rw[hx];refine this.mono ?_;rintro e w' h';rw[<-hsg];exact h')
   have HR:=O (hr.mono (fun _ _ h=>h.dm gX));have sI:=O (cP.trans gX);have Nf:wr.heap.size<(wr.alloc (.cells x.toArray 114)).heap.size:=aR;have HX:=O hx;have c0a:=O (gX.keep c0.o id);have c1a:=O (gX.keep c1.o id);clear hx ef hr hsg gX
   go_wp2_with (first|((with_reducible refine dr 20 ?_);refine aY rfl 114 (.tmp 19) rfl bk (k*16) rfl x _ hcell underlying114 rfl Ed.o ?_)|((with_reducible refine dr 21 ?_);refine aI rfl 114 (.tmp 11) rfl wr.heap.size rfl _ x.toArray (0,0) _ ui.o underlying114 rfl (by rw[aX];exact Ed.o) ?_)|((with_reducible refine dr 22 ?_);refine aI rfl 32 (.tmp 5) rfl w.heap.size rfl _ _ (0,0) _ c0a.o underlying32 rfl af ?_)|fail)
   clear jx hcell;generalize wr.alloc (.cells x.toArray 114)=V at *
   refine(HSM.o V).mono ?_;rintro e u1⟨rfl,dk⟩;cases pz:np o proxy aM g
   ·have HN:=O (any_take_succ dS.o HAN.o pz);clear pz HSM;go_wp2;go_roundw
    case rel=>exact⟨k+1,ab,bg,HN.o,sI.o.trans dk⟩
    case measure=>simp[intOf];omega
   ·have vL:=O (WM dS.o pz HAN.o);have apK:=O (dk.keep ui.o id);have hub:base<=u1.heap.size:=by have:=dk.size;have:=h1.lt;have:=cP.size;omega
    have fH:=O (uU base r g u1 hub (HR.o.mono (fun _ _ h=>h.dm dk)));rw[<-HX.o]at fH;have c1b:=O (dk.keep c1a.o id);have ln:=O (pq.trans (sI.o.trans dk));clear pz HSM;go_wp2_with (first|((with_reducible refine dr 26 ?_);refine aI rfl 114 (.tmp 11) rfl wr.heap.size rfl _ x.toArray (0,0) _ apK.o underlying114 rfl (by rw[aX];exact Ed.o) ?_)|fail)
    refine fH.o.mono ?_;intro e w3 Ob;obtain⟨r3,rfl,rP,qZ,iz⟩:=Ob;have b3:=O (iz.keep c1b.o id);have zj:(prog.info? 114).map (·.size)=some r3.cells.toArray.size:=af;have il:=ln.o.trans iz;obtain⟨y,hy⟩:∃y,y=r3.cells:=⟨_,rfl⟩;have HY:=O hy;rw[<-hy]at zj qZ ⊢;have Fs:=O (b_ qZ);have Du:=O (show eY.size=y.toArray.size by rw[hy];rfl);clear hy fH
    go_wp2_with (first|((with_reducible refine cZ 114 ?_);refine aF rfl 114 (.tmp 8) (.tmp 27) rfl (w.heap.size+1) y.toArray rfl rfl _ eY b3.o zj Du.o Fs.o ?_)|fail)
    have rZ:sG base w3 (one (w.heap.size+1)):=by
     rintro j rfl hj;exact⟨ab,fun c f e=>by rw[b3.o]at e;cases e⟩
    have kR:Fr (one (w.heap.size+1)) w3 (w3.setRow (w.heap.size+1) y.toArray):=(ae (one (w.heap.size+1)) w3).setRow (fun _=>rfl) _;refine aW (results_cell_tmp bD _ _ (w.heap.size+1) 114 y.toArray (0,0) _ rfl (a_ w3 (w.heap.size+1) _ _ _ _ b3.o) underlying114 rfl zj) rfl ?_;have Es:∀u∈r3.cells,u.oneCell'=true:=by rw[<-HY.o];exact qZ
    rw[HY.o]at *
    refine⟨il.setRow (fun h=>absurd h ab) _,?_⟩;rw[vL.o];exact⟨r3,rfl,rP.mono (fun _ _ h=>h.fr kR rZ),Es⟩
  ·have pE:¬(k:Int)<(gs.length:Int):=ab;have vL:=O (SM (p:=np o proxy aM) (l:=gs) (by have h:=HAN.o;rwa [aD ab]at h));have HF:=O (pq.trans cP);go_wp2_with (first|((with_reducible refine cZ 114 ?_);refine aF rfl 114 (.tmp 8) (.tmp 29) rfl (w.heap.size+1) eY rfl rfl _ eY c1.o af rfl yN ?_)|fail)
   refine aW (results_cell_tmp bD _ _ (w.heap.size+1) 114 eY (0,0) _ rfl (a_ wr (w.heap.size+1) _ _ _ _ c1.o) underlying114 rfl af) rfl ?_;refine⟨HF.o.setRow (fun h=>absurd h ab) _,?_⟩;rw[vL.o];rfl
theorem Jq(base:Nat)(w:World)(b:Nat)(v:Value)(ps:List ez)(h:eU base w b v ps)(hlen:ps.length<1000000) :
  aB 80 #[.pointer (some ⟨b,0,none⟩)] w fun e w'=>∃b' v',e=.returned (.pointer (some ⟨b',0,none⟩))/\eU w.heap.size w' b' v' ps/\Fr aS w w':=by
 have HL:=O (Am base w b v ps h hlen);clear h;go_enter func80,ntmps80;go_wp2_with fail
 refine HL.o.mono ?_;rintro e u⟨v',rfl,ho,hf⟩;have gX:Fr aS u (u.alloc (.cells #[v'] 92)):=(ae aS u).alloc _;have HR:=O (show eU w.heap.size (u.alloc (.cells #[v'] 92)) u.heap.size v' ps from⟨hf.size,aC _ _,ho.fr gX (fun _ _ h=>h)⟩);have HF:=O (hf.trans gX);obtain⟨a',c',sL⟩:=ho.form;rw[ai]at sL;subst sL;clear ho HL hf gX;go_wp2;go_ret;exact⟨_,_,rfl,HR.o,HF.o⟩
