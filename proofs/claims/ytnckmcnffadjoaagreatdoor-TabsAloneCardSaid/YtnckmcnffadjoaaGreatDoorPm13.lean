/- Lemmas for the law's walk. -/
import Derived.Test.YtnckmcnffadjoaaGreatDoorPm12
set_option maxRecDepth 100000
set_option maxHeartbeats 16000000
set_option linter.unusedSimpArgs false
namespace Go.Proofs.YtnckmcnffadjoaaGreatDoor
open Go.Proofs.Tryz
open Go.RowKit
variable {base b c k g:Nat} {w:World} {a:eV} {r n:Bs} {v:Value} {ps:List jz} {p:jz}
def zL(ws:List (bJ bE))(m:bJ bE):List (bJ bE) :=
 let l:=(ml m.o m.proxy ws).1++[m]
 l.drop (l.length-8)
theorem Vq(ws:List (bJ bE))(m:bJ bE):(zL ws m).length<=8:=by
 unfold zL;simp only[bK];omega
def Gy(base:Nat)(w:World)(b:Nat)(gv wv:Value)(gs:List (aP bE))(ws:List (bJ bE))(e:Ending)(w':World):Prop :=
 e=.returned (.tuple #[])/\kE base w b gv wv gs ws w'
theorem NW{base:Nat}{w3 w4:World}{b:Nat}{gv wv:Value}{gs:List (aP bE)}{fs:List (bJ bE)}{m:bJ bE}{r3:bJ Value}{rs:List (bJ Value)}{gg cap:Nat}(h3:dE base w3 b gv wv gs fs)
  (ho:OwnRows base 133 13 w3 wv (rs.map bJ.cells))(kB:lg (bJ.Reads (dv base w3)) rs fs)(rF:bJ.Reads (dv base w3) r3 m)(qM:∀u∈r3.cells,u.oneCell'=true)(kQ:Fr (own wv) w3 w4)
  (fa:w4.ownsRow base 133 13 (.slice (some ⟨gg,0,none⟩) (fs.length+1) cap) (fs.length+1) ((rs.map bJ.cells).flatten++r3.cells))(dT:wv.ownBlock=some gg\/w3.heap.size<=gg) :
  dE base (w4.setCell ⟨b,1,none⟩ (.slice (some ⟨gg,0,none⟩) (fs.length+1) cap)) b gv (.slice (some ⟨gg,0,none⟩) (fs.length+1) cap) gs (fs++[m]) /\
  Fr (dw b gv wv) w3 (w4.setCell ⟨b,1,none⟩ (.slice (some ⟨gg,0,none⟩) (fs.length+1) cap))/\∀k,dw b gv (.slice (some ⟨gg,0,none⟩) (fs.length+1) cap) k->dw b gv wv k\/w3.heap.size<=k:=by
 have lo:=h3.low;have ve:=kB.len;have DX:rY base w3 (own wv):=ho.off (ay _) ag;have tV:lg (bJ.Reads (dv base w4)) (rs++[r3]) (fs++[m]) :=
  (kB.mono (fun _ _ h=>h.mono (fun _ _ h=>h.fr kQ DX))).app (.cons (rF.mono (fun _ _ h=>h.fr kQ DX)) .nil)
 have Ci:ki base w4 (.slice (some ⟨gg,0,none⟩) (fs.length+1) cap) (fs++[m]):=by
  refine⟨rs++[r3],⟨?_,?_⟩,tV⟩
  ·intro x hx;rw[bG]at hx;rcases bR.1 hx with hx|hx
   ·exact ho.1 x hx
   ·simp at hx;subst hx;exact⟨rfl,qM⟩
  ·rw[bG,en,aN,ai,ve];simpa using fa
 have sX:=kQ.keep h3.eL h3.wb;have qC:gi base w4 gv gs:=h3.bH.fr kQ DX (fun k hk hg=>h3.gw hk hg);have Uw:Fr (dw b gv wv) w3 w4:=kQ.mono (fun _ _ hk=>Or.inr (Or.inr hk));refine⟨dE.adV lo sX qC Ci,Uw.setCell (p:=⟨b,1,none⟩) (fun _=>Or.inl rfl) _,?_⟩;rintro k(hk|hk|hk)
 ·exact Or.inl (Or.inl hk)
 ·exact Or.inl (Or.inr (Or.inl hk))
 ·have e:gg=k:=by simpa[own,Value.ownBlock]using hk
  subst e;rcases dT with dT|dT
  ·exact Or.inl (Or.inr (Or.inr dT))
  ·exact Or.inr dT
theorem nA.ret{w':World}{gv wv:Value}{gs:List (aP bE)}{u:List (bJ bE)×Option (bJ bE)}{e:Ending}(h:nA base w b gv wv gs u e w'):∃v,e=.returned v:=by
 obtain⟨_,h⟩:=h;split at h
 ·exact⟨_,h⟩
 ·obtain⟨r,h,_⟩:=h;exact⟨_,h⟩
theorem Vr{r:bJ Value}{n:Nat}(h1:r.a.dom=.slice a n c):∀u∈r.cells,u.oneCell'=true:=by
 intro u hu;simp only[bJ.cells,bB,cz,dX]at hu;rcases hu with rfl|rfl|rfl|rfl|rfl|rfl|rfl|rfl|rfl|rfl|rfl|rfl|rfl<;>first|rfl|(rw[h1];rfl)
theorem NX(base:Nat)(w:World)(b:Nat)(gv wv:Value)(gs:List (aP bE))(ws:List (bJ bE))(g:bJ Value)(m:bJ bE)(h:dE base w b gv wv gs ws)(hg:g.Reads (dv base w) m)(EO:ws.length<17179869184) :
  aB 58 #[.pointer (some ⟨b,0,none⟩),.agg g.cells.toArray] w (Gy base w b gv wv gs (zL ws m)):=by
 obtain⟨x,hx⟩:∃x,x=g.cells:=⟨_,rfl⟩;have lB:x.length=13:=by rw[hx];rfl
 have uf:=h.lt;have lo:=h.low;obtain⟨ad,cd,xx⟩:=hg.2.2.2.2.2.2.2.2.2.2.rd.form;have pd:Fr aS w (w.alloc (.cells x.toArray 133)):=(ae aS w).alloc _;have h1:=h.dm pd;have FF:=hg.mono (fun _ _ h=>h.dm pd);have qk:(w.alloc (.cells x.toArray 133)).heap[w.heap.size]?=some (.cells x.toArray 133 (0,0)):=aC _ _
 have np:∀i u,g.cells[i]?=some u->(w.alloc (.cells x.toArray 133)).cell? ⟨w.heap.size,i,none⟩=some u:=fun i u hu=>by
  rw[<-hx]at hu;simp only[World.cell?,qk];simpa using hu
 have c0:=np 0 _ rfl;have c1:=np 1 _ rfl;have c2:=np 2 _ rfl;have c3:=np 3 _ rfl;have rE:=O (Lh base _ b gv wv gs ws g.o g.proxy h1 ab);have tR:=O qk;have HG:=O FF;have HX:=O hx;have HDV:=O xx;rw[<-hx];clear hg FF qk np hx xx;go_enter func58,ntmps58;go_wp2_with fail
 clear c0 c1 c2 c3;have aoq:w.heap.size<(w.alloc (.cells x.toArray 133)).heap.size:=aR;generalize w.alloc (.cells x.toArray 133)=W at *
 refine rE.o.mono ?_;intro e w2 hpd;obtain⟨rv,rfl⟩:=hpd.ret;obtain⟨⟨gv2,wv2,h2,dB,La⟩,_⟩:=hpd;have mS:=h1.off;have hup:∀j,dw b gv wv j->j<w.heap.size:=fun j hj=>by
  rcases hj with hj|hj|hj
  ·omega
  ·obtain⟨cc,e⟩:=h.tY hj;exact bj e
  ·obtain⟨cc,e⟩:=h.vZ hj;exact bj e
 have qe:¬dw b gv wv w.heap.size:=fun hh=>by have:=hup _ hh;omega
 have zH:=O (dB.keep tR.o qe);have xk:=HG.o.mono (fun _ _ h=>h.fr dB mS);have hll:=Gw g.o g.proxy ws;have jq:Fr (dw b gv wv) w w2:=fV (pd.mono (fun _ _ h=>absurd h id)) dB (fun _ _ h=>h);have Vs:∀j,dw b gv2 wv2 j->dw b gv wv j\/w.heap.size<j:=fun j hj=>by
  rcases La j hj with h|h
  ·exact Or.inl h
  ·exact Or.inr ab
 obtain⟨fs,kH⟩:∃fs,fs=(ml g.o g.proxy ws).1:=⟨_,rfl⟩;rw[<-kH]at h2 hll;have DH:=O (show zL ws m=(fs++[m]).drop (fs.length+1-8)by
  unfold zL;rw[<-xk.1, <-xk.2.1, <-kH];simp)
 have xB:=xk.2.2.2.2.2.2.2.2.2.2;rw[HDV.o]at xB;have c12:w2.cell? ⟨w.heap.size,12,none⟩=some (.slice ad m.a.dom.length cd):=by
  have e:=HX.o;have hd:=HDV.o;have hu:x[12]?=some (.slice ad m.a.dom.length cd):=by rw[e, <-hd];rfl
  simp only[World.cell?,zH.o];simpa using hu
 have CL:=O (rN base _ _ _ xB);have Tz:=O xk;have avd:w.heap.size<w2.heap.size:=bj zH.o;clear rE pd dB mS kH h1 xk xB La tR HG aoq;go_wp2_with fail
 refine CL.o.mono ?_;rintro e w3⟨a3,c3,rfl,T7,iz⟩;have DZ:=iz.keep zH.o id;have ave:w.heap.size<w3.heap.size:=bj DZ;have aiq:w3.cell? ⟨w.heap.size,12,none⟩=some (.slice ad m.a.dom.length cd):=by
  have e:=HX.o;have hd:=HDV.o;have hu:x[12]?=some (.slice ad m.a.dom.length cd):=by rw[e, <-hd];rfl
  simp only[World.cell?,DZ];simpa using hu
 have f12:w3.frozen? ⟨w.heap.size,12,none⟩=false:=by simp[World.frozen?,DZ]
 have rO:rY base w3 (one w.heap.size):=by
  rintro j rfl _;exact⟨ab,fun c f e=>by rw[DZ]at e;cases e⟩
 have kH:Fr (one w.heap.size) w3 (w3.setCell ⟨w.heap.size,12,none⟩ (.slice a3 m.a.dom.length c3)):=(ae (one w.heap.size) w3).setCell (p:=⟨w.heap.size,12,none⟩) (fun _=>rfl) _;have ZH:¬dw b gv2 wv2 w.heap.size:=fun hh=>by
  rcases Vs _ hh with h|h
  ·exact qe h
  ·omega
 have h4:=(h2.dm iz).fr kH rO (fun hh=>ZH (Or.inl (by have e:b=w.heap.size:=hh;rw[e]))) (fun j hj hh=>ZH (Or.inr (Or.inl (by have e:j=w.heap.size:=hh;rw[<-e];exact hj)))) (fun j hj hh=>ZH (Or.inr (Or.inr (by have e:j=w.heap.size:=hh;rw[<-e];exact hj))));have vA:(g.mT (.slice a3 m.a.dom.length c3)).Reads (dv base (w3.setCell ⟨w.heap.size,12,none⟩ (.slice a3 m.a.dom.length c3))) m:=by
  have q:=Tz.o;exact⟨q.1,q.2.1,q.2.2.1,q.2.2.2.1,q.2.2.2.2.1,q.2.2.2.2.2.1,q.2.2.2.2.2.2.1,q.2.2.2.2.2.2.2.1,q.2.2.2.2.2.2.2.2.1,q.2.2.2.2.2.2.2.2.2.1,T7.fr kH rO⟩
 have D2:∀u∈(g.mT (.slice a3 m.a.dom.length c3)).cells,u.oneCell'=true:=Vr rfl;have tV:=cg DZ 12 (.slice a3 m.a.dom.length c3);have hye:x.toArray.setIfInBounds 12 (.slice a3 m.a.dom.length c3)=(g.mT (.slice a3 m.a.dom.length c3)).cells.toArray:=by rw[HX.o];rfl
 rw[hye]at tV;have hFV:Fr (dw b gv wv) w (w3.setCell ⟨w.heap.size,12,none⟩ (.slice a3 m.a.dom.length c3)):=(jq.trans (iz.mono (fun _ _ h=>absurd h id))).setCell (p:=⟨w.heap.size,12,none⟩) (fun hl=>absurd hl aR) _;have H4:=O h4;have X6:=O vA;have ab8:=O D2;have ZF:=O tV;have hVl:w.heap.size<(w3.setCell ⟨w.heap.size,12,none⟩ (.slice a3 m.a.dom.length c3)).heap.size:=bj tV
 clear rO kH hye tV h4 vA D2 h2 T7 iz DZ CL Tz ZH jq;obtain⟨av,cv,Va⟩:=H4.o.waits.form;subst Va;have d1:=H4.o.c1;have e1:=H4.o.free 1;have ow:∀i u,(g.mT (.slice a3 m.a.dom.length c3)).cells[i]?=some u->(w3.setCell ⟨w.heap.size,12,none⟩ (.slice a3 m.a.dom.length c3)).cell? ⟨w.heap.size,i,none⟩=some u:=fun i u hu=>by
  simp only[World.cell?,ZF.o];simpa using hu
 have x0:=ow 0 _ rfl;have x1:=ow 1 _ rfl;have x2:=ow 2 _ rfl;have x3:=ow 3 _ rfl;have x4:=ow 4 _ rfl;have x5:=ow 5 _ rfl;have x6:=ow 6 _ rfl;have x7:=ow 7 _ rfl;have x8:=ow 8 _ rfl;have x9:=ow 9 _ rfl;have ZA:=ow 10 _ rfl;have ZB:=ow 11 _ rfl;have x12:=ow 12 _ rfl;obtain⟨i0,qA,po,k_,lp⟩:=info_parts Gs;obtain⟨rs,ho,kB⟩:=H4.o.waits;have HO:=O ho;have pV:=O kB;have hbV:=H4.o.lt
 have cR:(w3.setCell ⟨w.heap.size,12,none⟩ (.slice a3 m.a.dom.length c3)).ownsRow base 133 13 (.slice av fs.length cv) fs.length (rs.map bJ.cells).flatten:=by
  have hh:=ho.2;rw[ai,kB.len]at hh;exact hh
 have Ay:¬own (.slice av fs.length cv) b:=H4.o.wb;clear ho kB ow;go_wp2_with fail
 clear c12 aiq f12;generalize w3.setCell ⟨w.heap.size,12,none⟩ (.slice a3 m.a.dom.length c3)=V at *
 simp only[bJ.mT]at x0 x1 x2 x3 x4 x5 x6 x7 x8 x9 ZA ZB x12
 go_region_law ((with_reducible refine mP ⟨some 24,_,_,_,_,_⟩ ?_)
                refine step_append_lies _ bC _ _ _ bC base 133 i0 _ 13 168 underlying87 qA po k_ lp rfl ab (.slice av fs.length cv) fs.length _ bC (by repeat(first|exact cR|apply World.ownsRow.alloc|apply World.ownsRow.drew)) ⟨V.heap.size,0,none⟩ 1 1 (g.mT (.slice a3 m.a.dom.length c3)).cells bC bC (kR V (g.mT (.slice a3 m.a.dom.length c3)).cells _) ab8.o ab fx ab bI (V.heap.size+1) aR ?_
                intro gg cap w5 vQ jC dT adp
                have q_:Fr (own (.slice av fs.length cv)) V w5:=fq (by repeat(first|exact ae _ _|apply aA|apply bz)) jC (fun _ hk _=>hk)
                have k4:w5.cell? ⟨b,1,none⟩=some (.slice av fs.length cv):=(q_.cell (p:=⟨b,1,none⟩) hbV Ay).trans d1
                have e4:w5.frozen? ⟨b,1,none⟩=false:=(q_.frozen (p:=⟨b,1,none⟩) hbV Ay).trans e1)
 all_goals
  obtain⟨h5,hF5,Ru⟩:=NW (m:=m) H4.o HO.o pV.o X6.o ab8.o q_ vQ (dT.imp id (fun h=>ab));have d5:=h5.c1;have e5:=h5.free 1;clear x0 x1 x2 x3 x4 x5 x6 x7 x8 x9 ZA ZB x12 d1 e1 k4 e4 jC vQ cR q_;generalize w5.setCell ⟨b,1,none⟩ (.slice (some ⟨gg,0,none⟩) (fs.length+1) cap)=w6 at *
  have AY:(fs++[m]).length=fs.length+1:=aR;have Tw:=O AY;have ym:Fr (dw b gv wv) w w6:=hFV.step hF5 (fun k hk hb=>by
   rcases Vs k hb with h|h
   ·exact h
   ·omega)
  have Fj:∀k,dw b gv2 (.slice (some ⟨gg,0,none⟩) (fs.length+1) cap) k->dw b gv wv k\/w.heap.size<=k:=fun k hk=>by
   rcases Ru k hk with h|h
   ·rcases Vs k h with h|h
    ·exact Or.inl h
    ·exact Or.inr ab
   ·exact Or.inr ab
  by_cases h8:8<=fs.length
  ·have h8':(8:Int)<(fs.length:Int)+1:=ab;obtain⟨n,hn⟩:∃n:Nat,fs.length+1=n+8:=⟨fs.length+1-8,ab⟩;rw[<-AY]at h5;obtain⟨rs5,MN,Fk⟩:=h5.waits;have NN:=O (show(rs5.map bJ.cells).length=fs.length+1 by rw[ai,Fk.len,AY]);have qG:=O (Gq base gg cap 0 n (rs5.map bJ.cells) w6 (by rw[NN.o, <-AY];exact MN) ab (by rw[NN.o];omega));have Rv:=O hn;rw[NN.o]at qG;clear hn AY;go_wp2_with fail
   rw[show((fs.length:Int)+1-8)=(n:Int)from by have:=Rv.o;omega];refine qG.o.mono ?_;rintro e w7⟨rfl,zm,nF⟩;obtain⟨h7,Tx,d7,e7⟩:=Gx (i:=0) (n:=n) h5 Fk (by rw[Tw.o];exact zm) nF;rw[Tw.o,bw]at h7 Tx;rw[Tw.o]at d7;rw[List.take_zero,List.nil_append]at h7;have H7:=O h7;have Jt:=O Tx;clear h7 Tx qG zm Fk MN;go_wp2_with fail
   go_end0;refine⟨rfl,_,_,by rw[DH.o,show fs.length+1-8=n from by have:=Rv.o;omega];exact H7.o,ym.step Jt.o (fun k hk hb=>by
    rcases Fj k hb with h|h
    ·exact h
    ·omega),fun k hk=>Fj k ?_⟩
   rcases hk with h|h|h
   ·exact Or.inl h
   ·exact Or.inr (Or.inl h)
   ·exact Or.inr (Or.inr h)
  ·have h8':¬(8:Int)<(fs.length:Int)+1:=ab;go_wp2_with fail
   go_end0;exact⟨rfl,_,_,by rw[DH.o,show fs.length+1-8=0 from ab,eG];exact h5,ym,Fj⟩
theorem zO(base:Nat)(w:World)(b:Nat)(v:Value)(ps:List eo)(h:eP base w b v ps)(hlen:ps.length<1000000) :
  aB 149 #[.pointer (some ⟨b,0,none⟩)] w fun e w'=>∃v',e=.returned v'/\OwnRows w.heap.size 155 12 w' v' (ps.map eo.cells)/\Fr aS w w':=by
 obtain⟨av,cv,hv⟩:=h.form;subst hv;have c0:=h.c0;have hc:=O (ZO _ _ w h.rows.at (by rw[ai];omega));clear h;go_enter func149,ntmps149;go_wp2_with fail
 refine hc.o.mono ?_;rintro e u⟨v',rfl,ho,hf⟩;obtain⟨a',c',se⟩:=ho.form;subst se;rw[ai]at ho;have HO:=O ho;clear ho;go_wp2;go_ret;exact⟨_,rfl,HO.o,hf⟩
def eo.uV(r:qY)(p:eo):Bool:=p.cX.lj r.cX&&(p.o.lj r.o&&(p.path.toList==r.path.toList&&p.query.toList==r.query.toList))
def eo.wa(o:gA)(p:eo):Bool:=p.cX.lj o||p.o.lj o
theorem zP(o:gA)(pa qu:aj)(o':gA)(pa' qu':aj)(w:World):(binOp .eql 34 (.agg #[.bool o.aE,.string o.host,.int .i64 o.port,.string pa,.string qu]) (.agg #[.bool o'.aE,.string o'.host,.int .i64 o'.port,.string pa',.string qu'])).run prog w=.ok (.bool (o.lj o'&&(pa.toList==pa'.toList&&qu.toList==qu'.toList))) w:=by
 go_simp;simp only[show∀(P:Prop) [Decidable P] (W:World) (b:Bool),(if P then(Result.ok (Value.bool b) W:Result Value)else .ok (.bool false) W)=.ok (.bool (decide P&&b)) W from fun P _ W b=>by by_cases h:P<;>simp[h]]
 congr 2
 rw[fc];simp only[gA.lj,cF,dG,dW,and_assoc,iM]
theorem Lp(p:eo)(r:gu Value)(hs:List ig)(br:Nat)(w:World)(hr:w.heap[br]?=some (.cells r.cells.toArray 37 (0,0))) :
  aB 136 #[.agg p.cells.toArray,.pointer (some ⟨br,0,none⟩)] w fun e w'=>e=.returned (.bool (p.uV (r.dR hs)))/\Fr aS w w':=by
 have heq:=jA p.cX r.cX;have heu:=zP p.o p.path p.query r.o r.path r.query;have gS:Fr aS w (w.alloc (.cells p.cells.toArray 155)):=(ae aS w).alloc _;have g0:=gS.keep hr id;have g1:(w.alloc (.cells p.cells.toArray 155)).heap[w.heap.size]?=some (.cells p.cells.toArray 155 (0,0)):=aC _ _
 have hc:∀i u,r.cells[i]?=some u->(w.alloc (.cells p.cells.toArray 155)).cell? ⟨br,i,none⟩=some u:=fun i u hu=>by simp only[World.cell?,g0];simpa using hu
 have c1:=hc 1 _ rfl;have c2:=hc 2 _ rfl;have c3:=hc 3 _ rfl;have c4:=hc 4 _ rfl;have c5:=hc 5 _ rfl;have c6:=hc 6 _ rfl;have c7:=hc 7 _ rfl;have c8:=hc 8 _ rfl;have HF:=O gS;clear hr g0 g1 hc gS;unfold eo.cells at *
 cases e1:p.cX.lj r.cX
 ·have HR:=O (show p.uV (r.dR hs)=false by unfold eo.uV gu.dR;simp only;rw[e1];rfl);rw[e1]at heq;clear e1;go_enter func136,ntmps136;go_wp2;go_ret;exact⟨by rw[HR.o];rfl,HF.o⟩
 ·have HR:=O (show p.uV (r.dR hs)=(p.o.lj r.o&&(p.path.toList==r.path.toList&&p.query.toList==r.query.toList))by unfold eo.uV gu.dR;simp only;rw[e1];rfl);rw[e1]at heq;generalize (p.o.lj r.o&&(p.path.toList==r.path.toList&&p.query.toList==r.query.toList))=res at *
  clear e1;go_enter func136,ntmps136;go_wp2;go_ret;exact⟨by rw[HR.o];rfl,HF.o⟩
theorem Lq(p:eo)(o:gA)(bo:Nat)(w:World)(ho:w.heap[bo]?=some (.cells #[.bool o.aE,.string o.host,.int .i64 o.port] 32 (0,0))) :
  aB 146 #[.agg p.cells.toArray,.pointer (some ⟨bo,0,none⟩)] w fun e w'=>e=.returned (.bool (p.wa o))/\Fr aS w w':=by
 have heq:=jA p.cX o;have heo:=jA p.o o;have gS:Fr aS w (w.alloc (.cells p.cells.toArray 155)):=(ae aS w).alloc _;have g0:=gS.keep ho id;have c0:(w.alloc (.cells p.cells.toArray 155)).cell? ⟨bo,0,none⟩=some (.bool o.aE):=by simp[World.cell?,g0]
 have c1:(w.alloc (.cells p.cells.toArray 155)).cell? ⟨bo,1,none⟩=some (.string o.host):=by simp[World.cell?,g0]
 have c2:(w.alloc (.cells p.cells.toArray 155)).cell? ⟨bo,2,none⟩=some (.int .i64 o.port):=by simp[World.cell?,g0]
 have HF:=O gS;clear ho g0 gS;unfold eo.cells at *
 cases e1:p.cX.lj o
 ·have HR:=O (show p.wa o=p.o.lj o by unfold eo.wa;rw[e1];rfl);rw[e1]at heq;generalize p.o.lj o=res at *
  clear e1;go_enter func146,ntmps146;go_wp2;go_ret;exact⟨by rw[HR.o];rfl,HF.o⟩
 ·have HR:=O (show p.wa o=true by unfold eo.wa;rw[e1];rfl);rw[e1]at heq;clear e1;go_enter func146,ntmps146;go_wp2;go_ret;exact⟨by rw[HR.o];rfl,HF.o⟩
def wW(M:Nat)(ps:List jz):Prop:=∀p∈ps,p.1.length<=M/\p.2.length<=M
theorem xF(M:Nat):∀(f:Nat) (ps:List jz) (r:Bs) (q:List jz×Bs),r.length<=M->wW M ps->gU f ps r=.ok q->wW M q.1
 |0,ps,r,q,_,hp,h=>by rw[gU]at h;cases h;exact hp
 |f+1,ps,r,q,hr,hp,h=>by
  rw[gU]at h;cases hq:ld ps r with
  |error e=>rw[hq]at h;cases h
  |ok p =>
   obtain⟨p,r1⟩:=p;rw[hq]at h;have hle:=tN hq;have hg:=oI r1;have hn:wW M (ps++[p]):=by
    intro a ha;rcases bR.1 ha with g|g
    ·exact hp a g
    ·simp at g;subst g;exact⟨ab,ab⟩
   simp only at h;split at h
   ·split at h
    ·exact xF M f _ _ q ab hn h
    ·cases h;exact hn
   ·cases h
structure nt.Le (M:Nat) (x:nt):Prop where
 scheme:x.scheme.length<=M
 token:x.token.length<=M
 zg:wW M x.params
theorem N2{M:Nat}{x:nt}{z:Bs}(hr:r.length<=M)(h:pk k r=.ok (x,z)):x.Le M:=by
 have hw:=rk r;have hb:=lJ (iB r);unfold pk at h;split at h
 ·cases h
 split at h
 ·cases h
 split at h
 ·cases h;exact⟨by show(ia r).length<=M;omega,aQ _,fun p hp=>by cases hp⟩
 split at h
 ·cases h
 split at h
 ·rename_i q hq;obtain⟨t,z'⟩:=q;have:=CY hq;cases h;exact⟨by show(ia r).length<=M;omega,by show t.length<=M;omega,fun p hp=>by cases hp⟩
 ·split at h
  ·cases h
  ·rename_i q hq;have:=xF M _ _ _ _ ab (fun p hp=>by cases hp) hq;cases h;exact⟨by show(ia r).length<=M;omega,aQ _,this⟩
theorem zS(M:Nat):∀(f:Nat) (acc:List nt) (r:Bs) (l:List nt),r.length<=M->(∀x∈acc,x.Le M)->kf f acc r=.ok l->∀x∈l,x.Le M
 |0,acc,r,l,_,ha,h=>by rw[kf]at h;cases h;exact ha
 |f+1,acc,r,l,hr,ha,h=>by
  rw[kf]at h;split at h
  ·cases h;exact ha
  ·cases ho:pk acc.length (iH r)with
   |error e=>rw[ho]at h;cases h
   |ok q =>
    obtain⟨x,r1⟩:=q;rw[ho]at h;have h1:=Cx ho;have h2:=oI r;have hx:=N2 (M:=M) ab ho;refine zS M f _ _ l ab (fun y hy=>?_) h;rcases bR.1 hy with g|g
    ·exact ha y g
    ·simp at g;subst g;exact hx
theorem BX{l:List nt}(h:mC r=.ok l):∀x∈l,x.Le r.length:=by
 unfold mC at h;split at h
 ·cases h
 ·exact zS _ _ _ _ _ (ay _) (fun x hx=>by cases hx) h
theorem BZ{l:List nt}(h:mC r=.ok l):r.length<=3000:=by
 unfold mC at h;split at h
 ·cases h
 ·omega
theorem RJ{l:List nt}(h:mC r=.ok l):∀x∈l,x.Fit:=by
 intro x hx;have h1:=BX h x hx;have h2:=BZ h;have h3:=(Kn h).1 x hx;exact⟨by have:=h1.scheme;omega,by have:=h1.token;omega,h3.tP,fun p hp=>by have:=h1.zg p hp;omega⟩
theorem Strs.up{b':Nat}{ss:List aj}(h:Strs b' w v ss)(hb:base<=b'):Strs base w v ss:=by
 obtain⟨h1,h2⟩:=h;refine⟨h1,?_⟩;rcases h2 with h2|⟨g,cap,cur,hv,hg,r⟩
 ·exact Or.inl h2
 ·exact Or.inr ⟨g,cap,cur,hv,aG hb hg,r⟩
def lz(ps:List jz):Prop:=ps.length<=1000/\∀p∈ps,p.1.length<=100000/\p.2.length<=100000
def py(ps:List jz)(n:Bs):List aj:=(xW ps n).map bA
theorem RP(ps:List jz)(n:Bs):(py ps n).map (·.data.toList)=xW ps n:=by
 unfold py;rw[iq]
 conv=>rhs;rw[<-List.map_id (xW ps n)]
 exact List.map_congr_left (fun x _=>by simp[bA])
theorem Ec(ps:List jz)(n:Bs):(xW ps n).length<=ps.length:=by unfold xW;rw[ai];exact bU _ _
theorem VQ{x:Bs}(h:x∈xW ps n):∃p∈ps,x=p.2:=by
 unfold xW at h;obtain⟨p,hp,rfl⟩:=b_.1 h;exact⟨p,(fe.1 hp).1,rfl⟩
theorem VR(h:ps[k]?=some p)(hs:dJ p.1 n=true):py (ps.take (k+1)) n=py (ps.take k) n++[bA p.2]:=by
 unfold py xW;rw[dZ h,cG];simp[hs]
theorem RQ(h:ps[k]?=some p)(hs:dJ p.1 n=false):py (ps.take (k+1)) n=py (ps.take k) n:=by
 unfold py xW;rw[dZ h,cG];simp[hs]
theorem LB{sep:Bs}(aiZ:sep.length=2):∀(l:List Bs) (M:Nat),(∀x∈l,x.length+2<=M)->(Lib.join l sep).length<=l.length*M
 |[],M,_=>by simp[Lib.join]
 |[x],M,h=>by have:=h x aR;simp[Lib.join];omega
 |x :: y :: l,M,h=>by
  have ih:=LB aiZ (y :: l) M (fun z hz=>h z (bQ _ hz));have hx:=h x (cY ..);rw[YS];simp only[aN,List.length_cons,aiZ]at ih ⊢;rw[im (l.length+1)];omega
theorem GJ(n:Bs)(hz:lz ps):(lr ps n).length<=100002000:=by
 unfold lr;have h:=LB (sep:=[44,32]) rfl (xW ps n) 100002 (fun x hx=>by obtain⟨p,hp,rfl⟩:=VQ hx;have:=(hz.2 p hp).2;omega);have h2:=Ec ps n;have h3:=hz.1;have h4:(xW ps n).length*100002<=1000*100002:=bP _ ab;omega
theorem RR(base:Nat)(v:Value)(ss:List aj)(w:World)(hv:Strs base w v ss)(hn:ss.length<=1000)(hlen:(Lib.join (ss.map (·.data.toList)) [44,32]).length<=140737488355328) :
  aB 207 #[v,.string ⟨#[44,32]⟩] w fun e w'=>e=.returned (.string (bA (Lib.join (ss.map (·.data.toList)) [44,32])))/\Fr aS w w':=by
 rcases hv.at with ⟨a,c,rfl,rfl,_⟩|⟨bk,o,c,rfl,h1,h2,h3,h4⟩
 ·exact(strings_Join_none _ _ _ _).mono (by rintro e w1 ⟨rfl,rfl⟩;exact⟨rfl,ae _ _⟩)
 ·exact(strings_Join bk o c ss ⟨#[44,32]⟩ w h4 h3 ab h1 hlen).mono (by rintro e w1 ⟨rfl,hb⟩;exact⟨rfl,fk hb⟩)
def ai0(ps:List jz)(n:Bs)(w:World)(out t:Value)(wr:World):Prop :=
 ∃k:Nat,k<=ps.length/\t=.int .i64 k/\Strs w.heap.size wr out (py (ps.take k) n)/\Fr aS w wr
def N6(ps:List jz)(n:Bs):Value:=.tuple #[.string (bA (lr ps n)),.bool (qz ps n)]
theorem RS(v:Value)(ps:List jz)(name:aj)(w:World)(h:lM w v ps)(hz:lz ps)(hn:name.size<17592186044416) :
  aB 194 #[v,.string name] w fun e w'=>e=.returned (N6 ps name.data.toList)/\Fr aS w w':=by
 obtain⟨av,cv,hv⟩:=h.form;subst hv;have HZ:=O hz;have MP:=hz.1;clear hz;go_enter func194,ntmps194;go_wp2;go_loopw[6,11] (ai0 ps name.data.toList w) (fun _ t _=>ps.length-(intOf t).toNat)
 case atStart=>exact⟨0,aQ _,rfl,kU _ _,ae _ _⟩
 case round =>
  obtain⟨k,hk,rfl,ho,cL⟩:=hrel;obtain⟨ao,co,MM⟩:=ho.form;by_cases fo:k<ps.length
  ·have pq:(k:Int)<(ps.length:Int):=ab;have dT:=O (List.getElem?_eq_getElem fo);have XV:=O (HZ.o.2 _ (bN fo));generalize ps[k]=q at dT XV;obtain⟨nm,vl⟩:=q;obtain⟨bk,of,rfl,h1,h2,c0,c1⟩:=lM.cells (bh h cL) dT.o;unfold maxLen at h2;simp only at c0 c1;obtain⟨wb,j6⟩:∃wb,wb=wr.alloc (.cells #[.string (bA nm),.string (bA vl)] 171):=⟨_,rfl⟩;have ks:Fr aS wr wb:=by rw[j6];exact(ae aS wr).alloc _
   have xy:wb.heap[wr.heap.size]?=some (.cells #[.string (bA nm),.string (bA vl)] 171 (0,0)):=by rw[j6];exact aC _ _
   have qV:=O j6;clear j6;go_wp2_with fail
   rw[<-qV.o];refine(mA (bA nm) name wb (by have h:=XV.o.1;show nm.length<_;omega) hn).mono ?_;rintro e w8⟨rfl,sH⟩;rw[fU];have Q0:=O ((cL.trans ks).trans sH);have Tm:=ho.fr (ks.trans sH) (fun _ h=>h.elim);rw[MM]at Tm;have Th:=O (show(py (ps.take k) name.data.toList).length<=1000 from by
    unfold py;rw[ai];have:=Ec (ps.take k) name.data.toList;rw[aM]at this;omega)
   have avA:w.heap.size<=w8.heap.size:=Q0.o.size;cases pj:dJ nm name.data.toList
   ·have qe:=O (RQ dT.o pj);go_wp2;go_roundw
    case rel=>exact⟨k+1,ab,bg,by rw[qe.o];exact Tm,Q0.o⟩
    case measure=>simp[intOf];omega
   ·have qe:=O (VR dT.o pj);have hb8:=sH.keep xy id;have k1:w8.cell? ⟨wr.heap.size,1,none⟩=some (.string (bA vl)):=by simp[World.cell?,hb8]
    generalize py (ps.take k) name.data.toList=vs at *
    clear pj;go_wp2_with (at_builtin;refine nO rfl _ _ rfl w.heap.size (.slice ao vs.length co) vs rfl (by apply iG;exact Tm) ⟨w8.heap.size,0,none⟩ 1 (bA vl) rfl (jw _ _ _ _) (by have:=Th.o;omega) bI ?_;intro v' w9 uX hg9)
    have XU:=O ((Q0.o.alloc (.cells #[.string (bA vl)] 9)).fR hg9 (fun j hj=>Tm.block j hj));go_roundw
    case rel=>exact⟨k+1,ab,bg,by rw[qe.o];exact uX,XU.o⟩
    case measure=>simp[intOf];omega
  ·have pq:¬(k:Int)<(ps.length:Int):=ab;have QN:ps.take k=ps:=aD ab;rw[QN]at ho MM;subst MM;have Th:=Ec ps name.data.toList;have Ti:(py ps name.data.toList).length=(xW ps name.data.toList).length:=by unfold py;rw[ai]
   have HJ:=O (show Lib.join ((py ps name.data.toList).map (·.data.toList)) [44,32]=lr ps name.data.toList by rw[RP];rfl);have HB:=O (show decide (0<(py ps name.data.toList).length)=qz ps name.data.toList by
    unfold qz;rw[Ti];cases xW ps name.data.toList with
    |nil=>rfl
    |cons a l=>simp)
   have hJ:=O (RR w.heap.size _ (py ps name.data.toList) wr ho ab (by rw[HJ.o];have:=GJ name.data.toList HZ.o;omega));rw[HJ.o]at hJ;clear Ti Th;generalize hvs:py ps name.data.toList=vs at *
   have HVS:=O hvs;clear hvs;go_wp2_with fail
   refine hJ.o.mono ?_;rintro e u⟨rfl,yg⟩;go_wp2;go_ret2;refine⟨?_,cL.trans yg⟩;unfold N6;rw[<-HB.o];rfl
theorem wj(v:Value)(ps:List jz)(n:Bs)(w:World)(h:lM w v ps)(hz:lz ps)(hn:n.length<1000)(s:aj)(b:Bool)(hs:lr ps n=s.data.toList)(hb:qz ps n=b) :
  aB 194 #[v,.string (bA n)] w fun e w'=>e=.returned (.tuple #[.string s,.bool b])/\Fr aS w w':=by
 refine(RS v ps (bA n) w h hz (by show n.length<_;omega)).mono ?_;rintro e u⟨rfl,hf⟩;refine⟨?_,hf⟩;unfold N6;rw[fU,hs,hb,Ua]
theorem ub(ps:List jz)(n:Bs)(hz:lz ps):∃s:aj,lr ps n=s.data.toList/\s.size<=100002000:=⟨bA (lr ps n),by rw[fU],by show(lr ps n).length<=_;exact GJ n hz⟩
theorem Z7(v:Value)(ps:List jz)(w:World)(h:lM w v ps)(hz:lz ps) :
  aB 133 #[v] w fun e w'=>e=.returned (.int .i64 (ni ps))/\Fr aS w w':=by
 obtain⟨s,hs,yG⟩:=ub ps Hw hz;cases hb:qz ps Hw
 ·have HA:=O (show ni ps=5 by unfold ni;rw[hb];rfl);have hG:=O (wj v ps Hw w h hz ag s false hs hb);clear hb hs;go_enter func133,ntmps133;go_wp2_with fail
  refine hG.o.mono ?_;rintro e u⟨rfl,yg⟩;go_wp2;go_ret;exact⟨by rw[HA.o];rfl,yg⟩
 ·have hG:=O (wj v ps Hw w h hz ag s true hs hb);have HS:=O (fun u=>Kc s u ab);cases hd:oK s.data.toList
  ·have HA:=O (show ni ps=5 by unfold ni;rw[hb,hs,hd];rfl);have HD:=O hd;clear hb hs hd;go_enter func133,ntmps133;go_wp2_with fail
   refine hG.o.mono ?_;rintro e u⟨rfl,yg⟩;go_wp2_with fail
   refine(HS.o u).mono ?_;intro e u2 hp;obtain⟨rfl,dB⟩:=hp.no HD.o;go_wp2;go_ret;exact⟨by rw[HA.o];rfl,yg.trans dB⟩
  ·have HA:=O (show ni ps=min (y_ s.data.toList) 600 by unfold ni;rw[hb,hs,hd];rfl);have HD:=O hd;have hE:=O (fun u=>HS.o u);clear hb hs hd;go_enter func133,ntmps133;go_wp2_with fail
   refine hG.o.mono ?_;rintro e u⟨rfl,yg⟩;go_wp2_with fail
   refine(HS.o u).mono ?_;intro e u2 hp;obtain⟨rfl,dB⟩:=hp.ok HD.o;go_wp2;go_ret;exact⟨by rw[HA.o];rfl,yg.trans dB⟩
def GK(ps:List jz)(n:Bs)(w:World)(e:Ending)(w':World):Prop :=
 Fr aS w w'/\match lf ps n with
 |some ws=>∃v,e=.returned (.tuple #[v,.nilIface])/\Strs w.heap.size w' v (dU ws)
 |none=>e=.returned (.tuple #[.slice none 0 0,.iface 105 (.int .i64 3)])
theorem RT(v:Value)(ps:List jz)(n:Bs)(w:World)(h:lM w v ps)(hz:lz ps)(hn:n.length<1000) :
  aB 129 #[v,.string (bA n)] w (GK ps n w):=by
 obtain⟨s,hs,yG⟩:=ub ps n hz;have hG:=O (wj v ps n w h hz hn s _ hs rfl);have HW:=O (show lf ps n=match g_ s.data.toList with| .error _=>none| .ok l=>if 40<l.length then none else some l by unfold lf;rw[hs];cases g_ s.data.toList<;>rfl);have HL:=O (fun u=>J7 s u ab);clear hs;generalize qz ps n=b at hG;go_enter func129,ntmps129;go_wp2_with fail
 refine hG.o.mono ?_;rintro e u⟨rfl,yg⟩;go_wp2_with fail
 refine(HL.o u).mono ?_;rintro e u2⟨v2,er,rfl,dB,hm⟩;have VS:=O (yg.trans dB);cases hl:g_ s.data.toList with
 |error m =>
  rw[hl]at hm;obtain⟨rfl,g,rfl,hg⟩:=hm;have HN:=O (show lf ps n=none by rw[HW.o,hl]);clear hl;go_wp2;go_ret2;refine⟨VS.o,?_⟩;rw[HN.o];exact rfl
 |ok ws =>
  rw[hl]at hm;by_cases Hi:40<ws.length
  ·have HN:=O (show lf ps n=none by rw[HW.o,hl];show(if _ then _ else _)=_;rw[az Hi]);have Hp:if 40<ws.length then v2=.slice none 0 0/\FG u2 er (some (4,none))else Strs u.heap.size u2 v2 (dU ws)/\er=.nilIface:=hm
   rw[az Hi]at Hp;obtain⟨rfl,rfl⟩:=Hp;clear hl hm;go_wp2;go_ret2;refine⟨VS.o,?_⟩;rw[HN.o];exact rfl
  ·have HN:=O (show lf ps n=some ws by rw[HW.o,hl];show(if _ then _ else _)=_;rw[aq Hi]);have Hp:if 40<ws.length then v2=.slice none 0 0/\FG u2 er (some (4,none))else Strs u.heap.size u2 v2 (dU ws)/\er=.nilIface:=hm
   rw[aq Hi]at Hp;obtain⟨ir,rfl⟩:=Hp;clear hl hm;have xb:=yg.size;go_wp2;go_ret2;refine⟨VS.o,?_⟩;rw[HN.o];exact⟨_,rfl,ir.up xb⟩
structure dS where
 bH:List (aP bE)
 waits:List (bJ bE)
 book:List eo
 dL:List (gA×Int)
structure dI where
 part:Nat->dS
 now:Int
structure iY where
 what:Int
 part:Int
 cX:gA
 o:gA
 path:aj
 query:aj
 method:aj
 ey:List ig
 fN:Bool
 body:aj
 proxy:Bool
 text:aj
 user:aj
 pass:aj
 bL:aj
 cert:Int
 all:Bool
 n:Int
structure kI where
 what:Int
 head:aj
 cert:Int
def iY.aJ(o:iY):qY:=⟨o.cX,o.o,o.path,o.query,o.method,o.ey,o.fN⟩
def yq:dS:=⟨[],[],[],[]⟩
def Bc:dI:=⟨fun _=>yq,0⟩
def dI.set(w:dI)(k:Nat)(p:dS):dI:={w with part:=fun i=>if i=k then p else w.part i}
def rep(n:Int):kI:=⟨n,.empty,0⟩
def iY.ZQ(o:iY)(g:aP bE):nU:=⟨decide (g.a.scheme=3),g.a.cA,g.a.aK,g.a.bq,g.a.eH,g.user,g.pass,jL o.method,nJ o.path o.query,o.body,o.bL,g.count.toNat⟩
def qH(g:aP bE)(o:iY):Option aj :=
 if g.a.scheme=1 then
  (if 0<=Lib.indexByte g.user.data.toList 58 then none else if lF g.user&&lF g.pass then some (DF g.user g.pass)else none)
 else if((g.a.scheme=2\/g.a.scheme=3)/\(g.a.eH.data.toList=[]\/g.a.eH.data.toList=mh\/g.a.eH.data.toList=qi))/\(1<=g.count/\g.count<=4294967295)/\(zv g.a.scheme g.a.cy (o.ZQ g)).fair=true then
  some (bA (zv g.a.scheme g.a.cy (o.ZQ g)).text)
 else none
def uW(gs:List (aP bE))(o:gA)(proxy:Bool)(aK:aj):List (aP bE):=gs.filter (fun x=>!mX o proxy aK x)
def iP(p:dS)(o:iY):dS×kI :=
 match vr p.bH o.o o.proxy o.path with
 |(gs,.error _)=>({p with bH:=gs},rep 2)
 |(gs,.ok g) =>
  match qH g o with
  |none=>({p with bH:=uW gs g.o g.proxy g.a.aK},rep 2)
  |some s=>({p with bH:=gs},⟨1,s,0⟩)
def ZR(gs:List (aP bE))(o:gA)(proxy:Bool)(aK:aj):Option (aP bE):=gs.find? (mX o proxy aK)
def D8(a:fK bE)(g:Option (aP bE)):Option (aP bE) :=
 match g with
 |some g=>if a.cN&&(a.scheme==g.a.scheme&&a.bq.toList !=g.a.bq.toList)then some {g with a:=a,count:=0}else none
 |none=>none
def fM(p:dS)(o:iY):dS×kI :=
 match mC o.text.data.toList with
 | .error _=>(p,rep 7)
 | .ok l =>
  if 0<(ji l).scheme then
   match D8 (ji l) (ZR p.bH o.o o.proxy (ji l).aK)with
   |some g=>({p with bH:=vq p.bH g},rep 1)
   |none=>({p with bH:=uW p.bH o.o o.proxy (ji l).aK,waits:=zL p.waits ⟨o.o,o.proxy,o.path,ji l⟩},rep 3)
  else(p,rep 2)
def gy(p:dS)(o:iY):dS×kI :=
 match ml o.o o.proxy p.waits with
 |(ws,none)=>({p with waits:=ws},rep 2)
 |(ws,some x)=>({p with waits:=ws,bH:=vq p.bH ⟨x.o,x.proxy,o.user,o.pass,x.a,0,nX x.a x.proxy x.path⟩},rep 1)
def gY(p:dS)(now:Int)(o:iY):dS×kI :=
 match mO o.text.data.toList with
 | .error _=>(p,rep 7)
 | .ok l =>
  match uw o.aJ (FO o.cX.dR) l now with
  | .error _=>({p with book:=p.book.filter (fun q=>!q.uV o.aJ)},rep 2)
  | .ok m=>({p with book:=uu p.book m now},rep 1)
def Lr(o:gA)(l:List (gA×Int)):List (gA×Int):=l.filter (fun c=>!c.1.lj o)
def xC(l:List (gA×Int))(o:gA)(n:Int):List (gA×Int) :=
 (Lr o l++[(o,n)]).drop ((Lr o l++[(o,n)]).length-8)
def kj(p:dS)(o:iY):dS×kI :=
 if o.cert<0 then(p,rep 7)else({p with dL:=xC p.dL o.o o.cert},rep 1)
def Ls(p:dS)(o:iY):kI :=
 match p.dL.find? (fun c=>c.1.lj o.o)with
 |some c=>⟨1,.empty,c.2⟩
 |none=>rep 3
def uI(p:dS)(o:gA):dS:={p with bH:=p.bH.filter (fun g=>!X5 o g),waits:=p.waits.filter (fun g=>!NR o g)}
def N0(p:dS)(o:gA):dS:={uI p o with book:=p.book.filter (fun q=>!q.wa o),dL:=Lr o p.dL}
def qm(p:dS)(o:iY):dS×kI :=
 if o.all&&o.what==9 then(yq,rep 1)
 else if o.what==9 then(N0 p o.o,rep 1)else(uI p o.o,rep 1)
def sP(p:dS)(now:Int)(o:iY):dS×kI :=
 if o.what=1 then iP p o
 else if o.what=2 then fM p o
 else if o.what=3 then gy p o
 else if o.what=4 then(p,rep (if mF p.book o.aJ now then 5 else 4))
 else if o.what=5 then gY p now o
 else if o.what=6 then(p,Ls p o)
 else if o.what=7 then kj p o
 else qm p o
def iY.VA(o:iY):Bool:=decide (0<=o.part)&&(decide (o.part<4)&&(AH o.method.data.toList&&(decide (o.ey.length<=40)&&o.ey.all fun p=>AH p.1.data.toList)))
def iY.right(o:iY):Bool :=
 decide (1<=o.what)&&(decide (o.what<=10)&&(o.VA&&(nW o.cX&&(nW o.o&&(decide (o.path.size<=200)&&(o.path.data.toList.head?==some 47&&decide (o.text.size<=3000)))))))
def ku(w:dI)(o:iY):dI×kI :=
 if o.right then
  if o.what=10 then
   if o.n<0\/1099511627776-w.now<o.n then(w,rep 7)else({w with now:=w.now+o.n},rep 1)
  else(w.set o.part.toNat (sP (w.part o.part.toNat) w.now o).1,(sP (w.part o.part.toNat) w.now o).2)
 else(w,rep 7)
def dp(o:iY):Nat×Bool :=
 if o.right then
  if o.what=1\/o.what=2\/o.what=3\/o.what=8 then(1,true)
  else if o.what=4 then(10,false)
  else if o.what=5 then(10,true)
  else if o.what=6 then(4,false)
  else if o.what=7 then(4,true)
  else if o.what=10 then(8,true)
  else(7,true)
 else(0,false)
def ua(base:Nat)(w:World)(b:Nat)(v:Value)(ps:List eo)(f:eo->Bool)(e:Ending)(w':World):Prop :=
 e=.returned (.int .i64 ((ps.length:Int)-((ps.filter (fun p=>!f p)).length:Int)))/\D6 base w b v (ps.filter (fun p=>!f p)) w'
theorem GF{w1 w2:World}{ps ys:List eo}(h:eP base w1 b v ps)(dr:Fr aS w w1)(dB:Fr (own v) w1 w2)(JB:own (.slice a ys.length c)=own v)(ho:OwnRows base 155 12 w2 (.slice a ys.length c) (ys.map eo.cells)) :
  eP base (w2.setCell ⟨b,0,none⟩ (.slice a ys.length c)) b (.slice a ys.length c) ys/\Fr (iC b v) w (w2.setCell ⟨b,0,none⟩ (.slice a ys.length c))/\(∀k,iC b (.slice a ys.length c) k->iC b v k\/w.heap.size<=k)/\w2.cell? ⟨b,0,none⟩=some v/\w2.frozen? ⟨b,0,none⟩=false:=by
 have Ln:=dB.keep h.eL h.nb;refine⟨oV h.low Ln ho,?_,?_,by simp[World.cell?,Ln],by simp[World.frozen?,Ln]⟩
 ·exact(fV (S:=iC b v) (dr.mono (fun _ _ h=>absurd h id)) dB (fun _ _ h=>Or.inr h)).setCell (p:=⟨b,0,none⟩) (fun _=>Or.inl rfl) _
 ·rintro k(hk|hk)
  ·exact Or.inl (Or.inl hk)
  ·exact Or.inl (Or.inr (by rw[<-JB];exact hk))
theorem LA(base:Nat)(w:World)(b:Nat)(v:Value)(ps:List eo)(r:gu Value)(hs:List ig)(h:eP base w b v ps)(hlen:ps.length<1000000) :
  aB 66 #[.pointer (some ⟨b,0,none⟩),.agg r.cells.toArray] w (ua base w b v ps (eo.uV (r.dR hs))):=by
 obtain⟨rc,uH⟩:∃rc,rc=r.cells.toArray:=⟨_,rfl⟩;have dr:Fr aS w (w.alloc (.cells rc 37)):=(ae _ _).alloc _;have mf:(w.alloc (.cells rc 37)).heap[w.heap.size]?=some (.cells rc 37 (0,0)):=aC _ _;have h1:=h.dm dr;obtain⟨ak,ck,TC⟩:=h.form;subst TC;have ZC:¬own (.slice ak ps.length ck) w.heap.size:=fun hk=>by have:=h.D7 hk;omega
 have hd:=pW base 136 #[.pointer (some ⟨w.heap.size,0,none⟩)] (fun y=>(IB y).uV (r.dR hs)) (.slice ak ps.length ck) (ps.map eo.cells) _ call136 (fun y hy u hu=>by
  obtain⟨q,_,rfl⟩:=b_.1 hy;exact Lp q r hs w.heap.size u (by rw[<-uH];exact hu.keep mf ZC)) h1.rows
 rw[rf ps (eo.uV (r.dR hs)),ai]at hd;obtain⟨ys,Kq⟩:∃ys,ys=ps.filter (fun p=>!p.uV (r.dR hs)):=⟨_,rfl⟩;have hyl:ys.length<=ps.length:=by rw[Kq];exact bU _ _
 unfold ua;rw[<-Kq]at hd ⊢;have HD:=O hd;have H1:=O h1;have lC:=O dr;have c0:=h1.c0;have e0:=h1.free 0;rw[<-uH];clear hd Kq h1 h dr mf uH ZC;go_enter func66,ntmps66;go_wp2_with fail
 refine HD.o.mono ?_;rintro e w2⟨a2,c2,rfl,qX,dB,JB⟩;obtain⟨g1,g2,g3,d0,e2⟩:=GF H1.o lC.o dB JB qX;have d3:=g1.c0;have G:=O (And.intro g1 (And.intro g2 g3));clear g1 g2 g3 qX dB JB HD H1 lC c0 e0;go_wp2;go_ret;exact⟨rfl,_,G.o.1,G.o.2.1,G.o.2.2⟩
theorem N3(base:Nat)(w:World)(b:Nat)(v:Value)(ps:List eo)(o:gA)(h:eP base w b v ps)(hlen:ps.length<1000000) :
  aB 71 #[.pointer (some ⟨b,0,none⟩),.agg o.cells.toArray] w (ua base w b v ps (eo.wa o)):=by
 unfold gA.cells;have dr:Fr aS w (w.alloc (.cells #[.bool o.aE,.string o.host,.int .i64 o.port] 32)):=(ae _ _).alloc _;have mf:(w.alloc (.cells #[.bool o.aE,.string o.host,.int .i64 o.port] 32)).heap[w.heap.size]?=some (.cells #[.bool o.aE,.string o.host,.int .i64 o.port] 32 (0,0)):=aC _ _;have h1:=h.dm dr;obtain⟨ak,ck,TC⟩:=h.form;subst TC
 have ZC:¬own (.slice ak ps.length ck) w.heap.size:=fun hk=>by have:=h.D7 hk;omega
 have hd:=pW base 146 #[.pointer (some ⟨w.heap.size,0,none⟩)] (fun y=>(IB y).wa o) (.slice ak ps.length ck) (ps.map eo.cells) _ call146 (fun y hy u hu=>by
  obtain⟨q,_,rfl⟩:=b_.1 hy;exact Lq q o w.heap.size u (hu.keep mf ZC)) h1.rows
 rw[rf ps (eo.wa o),ai]at hd;obtain⟨ys,Kq⟩:∃ys,ys=ps.filter (fun p=>!p.wa o):=⟨_,rfl⟩;have hyl:ys.length<=ps.length:=by rw[Kq];exact bU _ _
 unfold ua;rw[<-Kq]at hd ⊢;have HD:=O hd;have H1:=O h1;have lC:=O dr;have c0:=h1.c0;have e0:=h1.free 0;clear hd Kq h1 h dr mf ZC;go_enter func71,ntmps71;go_wp2_with fail
 refine HD.o.mono ?_;rintro e w2⟨a2,c2,rfl,qX,dB,JB⟩;obtain⟨g1,g2,g3,d0,e2⟩:=GF H1.o lC.o dB JB qX;have d3:=g1.c0;have G:=O (And.intro g1 (And.intro g2 g3));clear g1 g2 g3 qX dB JB HD H1 lC c0 e0;go_wp2;go_ret;exact⟨rfl,_,G.o.1,G.o.2.1,G.o.2.2⟩
theorem VU(a d g:Bool)(b e p q m h:aj)(c f t:Int):prog.built 155 [(0,.agg #[.bool a,.string b,.int .i64 c]),(1,.agg #[.bool d,.string e,.int .i64 f,.string p,.string q]),(2,.bool g),(3,.string m),(4,.string h),(5,.int .i64 t)]=some #[.bool a,.string b,.int .i64 c,.bool d,.string e,.int .i64 f,.string p,.string q,.bool g,.string m,.string h,.int .i64 t]:=af
theorem N8:(prog.info? 155).map (fun i=>(i.zero,i.size,i.bytes))=some (some (.agg Fm),12,144):=af
theorem OwnRows.VV{e:TypeId}{xs:cZ}(h:OwnRows b e k w v xs)(hg:own v g):∃c,w.heap[g]?=some (.cells c e (0,0)):=by
 obtain⟨cap,cur,_,_,h2,_⟩:=h.open hg;exact⟨cur,h2⟩
theorem VW(p:eo):∀u∈p.cells,u.oneCell'=true:=by unfold eo.cells;simp[Value.oneCell']
theorem LD(acc:List eo)(X:eo):acc.any (fun q=>q.lj X)=acc.any (fun q=>X.lj q):=by
 congr 1;funext q
 rw[fc,eo.wO,eo.wO];exact eq_comm
theorem IH{P:Program}{ops:Array Oper}{S:World->Prop}{o:Oper}{a:Act}(hg:o.guard=none)(t:TypeId)(parts:Array (Nat×Operand))(ho:o.op=.build t parts)(cells:bS)
  (hf:P.built t (parts.map fun(i,x)=>(i,a.eval x)).toList=some cells):YieldsIf P ops S o (.agg cells) a :=
 Or.inl ⟨by simp[Region.wanted,hg],fun w _=>by
  unfold execOp;simp only[ho,Sem.run_bind,run_build w t _ cells hf,Result.andThen_ok];rfl⟩
theorem uY{ops:Array Oper}{S:World->Prop}{o:Oper}{a:Act}(hg:o.guard=none)(x0 x1 x2 x3 x4 x5:Operand)
  (ho:o.op=.build 155 #[(0,x0),(1,x1),(2,x2),(3,x3),(4,x4),(5,x5)])(b1 b2 b3:Bool)(s1 s2 s3 s4 s5 s6:aj)(i1 i2 i3:Int)
  (h0:a.eval x0=.agg #[.bool b1,.string s1,.int .i64 i1])(h1:a.eval x1=.agg #[.bool b2,.string s2,.int .i64 i2,.string s3,.string s4])(h2:a.eval x2=.bool b3)(h3:a.eval x3=.string s5)(h4:a.eval x4=.string s6)(h5:a.eval x5=.int .i64 i3) :
  YieldsIf prog ops S o (.agg #[.bool b1,.string s1,.int .i64 i1,.bool b2,.string s2,.int .i64 i2,.string s3,.string s4,.bool b3,.string s5,.string s6,.int .i64 i3]) a:=by
 refine IH hg 155 _ ho _ ?_;simp only[eF,cE,dt,h0,h1,h2,h3,h4,h5];exact VU _ _ _ _ _ _ _ _ _ _ _ _
theorem Ed{P:Program}{ops:Array Oper}{a:Act}{w:World}{K:Act->World->Prop}{Q:Exit->Act->World->Prop}{E:Prop}{o:Oper}(yN:o.guard=none)(ty:TypeId)(x y:Operand)(ho:o.op=.store ty x y)
  (g:Nat)(cells:bS)(hx:a.eval x=.pointer (some ⟨g,0,none⟩))(hy:a.eval y=.agg cells)
  (t:TypeId)(old:bS)(hg:w.heap[g]?=some (.cells old t (0,0)))(hi:(P.info? ty).map (·.size)=some cells.size)
  (hold:old.size=cells.size)(h1:cells.all (·.oneCell')=true)
  (h:K (a.put o.dst undef) (w.setRow g cells)):if Region.wanted o (yielded ops a.tmps)=true then Oper.wp P o a w K Q else E:=by
 have hw:Region.wanted o (yielded ops a.tmps)=true:=by simp[Region.wanted,yN]
 rw[az hw];exact wp_store_row ty x y ho g cells hx hy t old hg hi hold h1 h
theorem gV{S:dC}{a:World}(h:Fr S a w)(hg:a.heap.size<=g)(cs:bS):Fr S a (w.setRow g cs) :=
 ⟨h.os,h.tape,h.output,by show a.heap.size<=(w.setRow g cs).heap.size;rw[World.setRow];simp only[Array.size_modify];exact h.size,fun k hk hn=>(show(w.setRow g cs).heap[k]?=w.heap[k]? by simp[World.setRow,Array.getElem?_modify,show g≠k from ab]).trans (h.block k hk hn)⟩
theorem jR{old cs:bS}{t:TypeId}(h:w.heap[g]?=some (.cells old t (0,0))):(w.setRow g cs).heap[g]?=some (.cells cs t (0,0)):=by
 simp[World.setRow,Array.getElem?_modify,h]
theorem Z8(base:Nat)(m hd:aj)(r:gu Value)(hs:List ig)(now:Int)(lv:Value)(ps:List jz)(acc:List eo)(v:Value)(br bn bl bp:Nat)(w:World)
  (hr:w.heap[br]?=some (.cells r.cells.toArray 37 (0,0)))(hn:w.heap[bn]?=some (.cells #[.int .i64 now] 3 (0,0)))(hl:w.heap[bl]?=some (.cells #[lv] 35 (0,0)))(hp:w.heap[bp]?=some (.cells #[v] 90 (0,0)))
  (Nl:lM w lv ps)(hz:lz ps)(cR:OwnRows base 155 12 w v (acc.map eo.cells))(hb:base<=bp)(hlen:acc.length<1000000)(n0:0<=now)(n1:now<=1099511627776) :
  aB 132 #[.string m,.string hd,.pointer (some ⟨br,0,none⟩),.pointer (some ⟨bn,0,none⟩),.pointer (some ⟨bl,0,none⟩),.pointer (some ⟨bp,0,none⟩)] w fun e w'=>e=.returned (.tuple #[])/\∃v',w'.heap[bp]?=some (.cells #[v'] 90 (0,0))/\OwnRows base 155 12 w' v' ((qj acc ((r.dR hs).Da (now+ni ps) m hd)).map eo.cells)/\Fr (fun k=>k=bp\/own v k) w w':=by
 have hag:=Ng ps;have ai2:=O (show∀U,Fr aS w U->aB 133 #[lv] U fun e w'=>e=.returned (.int .i64 (ni ps))/\Fr aS U w' from fun U hU=>Z7 lv ps U (bh Nl hU) hz);obtain⟨al,cl,hlv⟩:=dK Nl;rw[ai]at hlv;subst hlv
 have HC:=O (show∀U,Fr aS w U->(U.cell? ⟨br,1,none⟩=some (.bool r.cX.aE)/\U.cell? ⟨br,2,none⟩=some (.string r.cX.host)/\U.cell? ⟨br,3,none⟩=some (.int .i64 r.cX.port)/\U.cell? ⟨br,4,none⟩=some (.bool r.o.aE)/\U.cell? ⟨br,5,none⟩=some (.string r.o.host)/\U.cell? ⟨br,6,none⟩=some (.int .i64 r.o.port)/\U.cell? ⟨br,7,none⟩=some (.string r.path)/\U.cell? ⟨br,8,none⟩=some (.string r.query)/\U.cell? ⟨br,11,none⟩=some (.bool r.fN)/\U.cell? ⟨bn,0,none⟩=some (.int .i64 now)/\U.cell? ⟨bl,0,none⟩=some (.slice al ps.length cl))from fun U hU=>by
  have j:=hU.keep hr id;have hc:∀i u,r.cells[i]?=some u->U.cell? ⟨br,i,none⟩=some u:=fun i u hu=>by simp only[World.cell?,j];simpa using hu
  exact⟨hc 1 _ rfl,hc 2 _ rfl,hc 3 _ rfl,hc 4 _ rfl,hc 5 _ rfl,hc 6 _ rfl,hc 7 _ rfl,hc 8 _ rfl,hc 11 _ rfl,by simp[World.cell?,hU.keep hn id],by simp[World.cell?,hU.keep hl id]⟩)
 obtain⟨X,hX⟩:∃X,X=(r.dR hs).Da (now+ni ps) m hd:=⟨_,rfl⟩;obtain⟨x,hx⟩:∃x,x=X.cells:=⟨_,rfl⟩;have lB:x.length=12:=by rw[hx];rfl
 have xc:=O (show∀u∈x,u.oneCell'=true from by rw[hx];exact VW X);have Gl:=vN x #[.bool false,.string ⟨#[]⟩,.int .i64 0,.bool false,.string ⟨#[]⟩,.int .i64 0,.string ⟨#[]⟩,.string ⟨#[]⟩,.bool false,.string ⟨#[]⟩,.string ⟨#[]⟩,.int .i64 0] (by rw[lB];rfl);have HX:=O hx
 have HXC:=O (show x.toArray= #[.bool r.cX.aE,.string r.cX.host,.int .i64 r.cX.port,.bool r.o.aE,.string r.o.host,.int .i64 r.o.port,.string r.path,.string r.query,.bool r.fN,.string m,.string hd,.int .i64 (now+ni ps)]by rw[hx,hX];rfl);rw[<-hX];clear hX hx;have arW:IntKind.i64.wrap (now+ni ps)=now+ni ps:=by rw[IntWalk.i64_left];exact IntWalk.wrap64_in _ ab
 clear hr hn hl Nl hz;go_enter func132,ntmps132;go_wp2_with fail
 refine wp_region_held_drew (S:=(fun U=>U.cell? ⟨br,1,none⟩=some (.bool r.cX.aE)/\U.cell? ⟨br,2,none⟩=some (.string r.cX.host)/\U.cell? ⟨br,3,none⟩=some (.int .i64 r.cX.port)/\U.cell? ⟨br,4,none⟩=some (.bool r.o.aE)/\U.cell? ⟨br,5,none⟩=some (.string r.o.host)/\U.cell? ⟨br,6,none⟩=some (.int .i64 r.o.port)/\U.cell? ⟨br,7,none⟩=some (.string r.path)/\U.cell? ⟨br,8,none⟩=some (.string r.query)/\U.cell? ⟨br,11,none⟩=some (.bool r.fN)/\U.cell? ⟨bn,0,none⟩=some (.int .i64 now)/\U.cell? ⟨bl,0,none⟩=some (.slice al ps.length cl))) af (HC.o _ (ae aS w).drew) ?_
 intro Az;refine aW 0 9 rfl ?_;refine aW 1 10 rfl ?_;refine aW 2 11 rfl ?_;refine aW 3 12 rfl ?_;refine aW 4 13 rfl ?_;refine aW 5 14 rfl ?_;refine aW 6 15 rfl ?_;refine aW 7 16 rfl ?_;refine aW 8 17 rfl ?_;refine aW 9 18 rfl ?_;refine wpAnyH_ready (rs:=[10,13]) af aR ?_;refine AllReadyH.cons rfl (fun K hK=>?hA) (AllReadyH.cons rfl (fun K hK=>?hB) AllReadyH.nil)
 case' hA =>
  go_simp;refine(ai2.o _ (ae aS w).drew).mono ?_;rintro e u⟨rfl,hu⟩;have HU:=O (show Fr aS w u from((ae aS w).drew).trans hu);refine hK.out _ _ (HC.o _ HU.o) ?_;intro yu;clear hK Az hu K
  try simp only[Act.put,sA,sB,sC]
  refine aW 11 20 rfl ?_
  refine wpAnyH_take (i:=12) (oi:=⟨some 21,_,_,_,_,_⟩) (v:=.agg #[.bool r.cX.aE,.string r.cX.host,.int .i64 r.cX.port,.bool r.o.aE,.string r.o.host,.int .i64 r.o.port,.string r.path,.string r.query,.bool r.fN,.string m,.string hd,.int .i64 (now+ni ps)]) rfl af af af (fun _ _ _ h=>h) (uY rfl (.tmp 10) (.tmp 12) (.tmp 14) (.tmp 15) (.tmp 16) (.tmp 20) rfl r.cX.aE r.o.aE r.fN r.cX.host r.o.host r.path r.query m hd r.cX.port r.o.port (now+ni ps) rfl rfl rfl rfl rfl rfl) j9 ?_
  try simp only[Act.put,sA,sB,sC]
  refine eT 13 rfl fun K hK=>?_;go_simp;obtain⟨bx,II⟩:∃bx,bx=u.heap.size:=⟨_,rfl⟩;obtain⟨w3,PV⟩:∃w3,w3=u.alloc (.cells Fm 155):=⟨_,rfl⟩;have HZB:=O (show w3.heap[bx]?=some (.cells Fm 155 (0,0))from by rw[PV,II];exact aC _ _);have VX:=O (show Fr aS w w3 from by rw[PV];exact HU.o.alloc _);have qk:w.heap.size<=bx:=by rw[II];exact HU.o.size
  rw[<-PV, <-II];refine hK.out _ _ (HC.o _ VX.o) ?_;intro B7;clear hK yu K PV II
 case' hB =>
  go_simp;obtain⟨bx,II⟩:∃bx,bx=w.heap.size:=⟨_,rfl⟩;obtain⟨w2,Z9⟩:∃w2,w2=(w.alloc (.cells Fm 155)).drew:=⟨_,rfl⟩;have lp:w2.heap[bx]?=some (.cells Fm 155 (0,0)):=by rw[Z9,II];exact aC _ _
  have Z_:Fr aS w w2:=by rw[Z9];exact((ae _ _).alloc _).drew
  have qk:w.heap.size<=bx:=by rw[II];exact ay _
  rw[<-Z9, <-II];refine hK.out _ _ (HC.o _ Z_) ?_;intro yu;clear hK Az K Z9 II
  try simp only[Act.put,sA,sB,sC]
  refine eT 10 rfl fun K hK=>?_;go_simp;refine(ai2.o _ Z_).mono ?_;rintro e w3⟨rfl,hu⟩;have HZB:=O (hu.keep lp id);have VX:=O (Z_.trans hu);refine hK.out _ _ (HC.o _ VX.o) ?_;intro B7;clear hK yu hu K lp Z_
  try simp only[Act.put,sA,sB,sC]
  refine aW 11 20 rfl ?_
  refine wpAnyH_take (i:=12) (oi:=⟨some 21,_,_,_,_,_⟩) (v:=.agg #[.bool r.cX.aE,.string r.cX.host,.int .i64 r.cX.port,.bool r.o.aE,.string r.o.host,.int .i64 r.o.port,.string r.path,.string r.query,.bool r.fN,.string m,.string hd,.int .i64 (now+ni ps)]) rfl af af af (fun _ _ _ h=>h) (uY rfl (.tmp 10) (.tmp 12) (.tmp 14) (.tmp 15) (.tmp 16) (.tmp 20) rfl r.cX.aE r.o.aE r.fN r.cX.host r.o.host r.path r.query m hd r.cX.port r.o.port (now+ni ps) rfl rfl rfl rfl rfl rfl) j9 ?_
 all_goals
  try simp only[Act.put,sA,sB,sC]
  refine eT 14 rfl fun K hK=>?_;refine Ed rfl 155 (.tmp 8) (.tmp 21) rfl bx #[.bool r.cX.aE,.string r.cX.host,.int .i64 r.cX.port,.bool r.o.aE,.string r.o.host,.int .i64 r.o.port,.string r.path,.string r.query,.bool r.fN,.string m,.string hd,.int .i64 (now+ni ps)] rfl rfl 155 Fm HZB.o af rfl bW ?_
  obtain⟨W,hW⟩:∃W,W=w3.setRow bx #[.bool r.cX.aE,.string r.cX.host,.int .i64 r.cX.port,.bool r.o.aE,.string r.o.host,.int .i64 r.o.port,.string r.path,.string r.query,.bool r.fN,.string m,.string hd,.int .i64 (now+ni ps)]:=⟨_,rfl⟩;have B8:Fr aS w W:=by rw[hW];exact gV VX.o qk _
  have Z':W.heap[bx]?=some (.cells x.toArray 155 (0,0)):=by rw[hW,HXC.o];exact jR HZB.o
  rw[<-hW];refine hK.out _ _ (HC.o _ B8) ?_;intro Bh;clear hK Bh K hW HZB VX
  try simp only[Act.put,List.setIfInBounds_toArray]
  refine wpAnyH_done af ?_ _;have HWF:=O B8;have TA:=O Z';obtain⟨avv,cvv,hvv⟩:=cR.form;rw[ai]at hvv;subst hvv;have HCT:=O (show aB 134 #[.slice avv acc.length cvv,.agg x.toArray] W fun e w'=>e=.returned (.bool (acc.any (fun q=>X.lj q)))/\Fr aS W w' from by rw[HX.o];exact LC _ acc X W (bh cR.at B8))
  have HBP:=O (show∀U,Fr (own (.slice avv acc.length cvv)) w U->U.heap[bp]?=some (.cells #[.slice avv acc.length cvv] 90 (0,0))from fun U hU=>hU.keep hp (fun hk=>by
   obtain⟨cc,e⟩:=cR.VV hk;rw[hp]at e;cases e))
  have RV:=O (fun U (hU:Fr aS w U)=>cR.fr hU (fun _ _ h=>h));have d5:W.cell? ⟨bp,0,none⟩=some (.slice avv acc.length cvv):=by simp[World.cell?,HBP.o W (B8.mono (fun _ _ h=>absurd h id))]
  have hxs:(prog.info? 155).map (·.size)=some x.toArray.size:=by rw[aZ];exact Ba lB
  have HXS:=O hxs;have oy:base<=W.heap.size:=by have h1:=B8.size;have h2:=bj hp;omega
  clear hp cR B8 Z' hxs;go_wp2_with (first|((with_reducible refine di 23 ?_);refine aH rfl 155 (.tmp 8) rfl bx rfl _ x.toArray (0,0) _ TA.o underlying155 rfl HXS.o ?_)|fail)
  refine HCT.o.mono ?_;rintro e u2⟨rfl,nu⟩;have tI:=O (HWF.o.trans nu);have Qg:=O (nu.keep TA.o id);have HO2:=O (RV.o u2 tI.o);have kB:=HBP.o u2 (tI.o.mono (fun _ _ h=>absurd h id));have d6:u2.cell? ⟨bp,0,none⟩=some (.slice avv acc.length cvv):=by simp[World.cell?,kB]
  have eE:base<=u2.heap.size:=by have:=nu.size;omega
  clear nu d5 HCT;cases jk:acc.any (fun q=>X.lj q)
  ·have N9:=O (show qj acc X=acc++[X]by
    unfold qj;rw[aq];rw[LD,jk];decide)
   clear jk
   go_wp2_with (first|((with_reducible refine di 27 ?_);refine aH rfl 155 (.tmp 8) rfl bx rfl _ x.toArray (0,0) _ Qg.o underlying155 rfl HXS.o ?_)|(at_builtin;refine nQ rfl _ _ 90 155 rfl 12 144 (.agg Fm) underlying90 N8 rfl ag ag base (.slice avv acc.length cvv) (acc.map eo.cells) rfl (HO2.o.alloc _) u2.heap.size 1 x rfl lB xc.o (fun i u hi=>by rw[World.cell?_alloc_mark];simpa using hi) (by rw[ai];omega) bI ?_;intro v' w4 fa Ci;obtain⟨a4,c4,Pq⟩:=fa.form;subst Pq;have jZ:Fr (own (.slice avv acc.length cvv)) u2 w4:=fq ((ae _ u2).alloc (.cells x.toArray 155)) Ci (fun k hk _=>hk);have tV:=HBP.o w4 ((tI.o.mono (fun _ _ h=>absurd h id)).step jZ (fun _ _ h=>h));have k4:w4.cell? ⟨bp,0,none⟩=some (.slice avv acc.length cvv):=(by simp[World.cell?,tV]);have e4:w4.frozen? ⟨bp,0,none⟩=false:=(by simp[World.frozen?,tV]))|fail)
   clear Gl;go_end0;refine⟨rfl,_,cg tV 0 _,?_,?_⟩
   ·rw[N9.o,bG,cE,dt, <-HX.o];have Lf:OwnRows base 155 12 w4 (.slice a4 (acc.length+1) c4) (acc.map eo.cells++[x]):=by
     have h:=fa;rw[aN,ai,List.length_singleton]at h;exact h
    have kH:Fr (one bp) w4 (w4.setCell ⟨bp,0,none⟩ (.slice a4 (acc.length+1) c4)):=(ae (one bp) w4).setCell (p:=⟨bp,0,none⟩) (fun _=>rfl) _;refine Lf.fr kH ?_;intro k hk e;obtain⟨cc,ek⟩:=Lf.VV hk;have e:k=bp:=e;rw[e,tV]at ek;cases ek
   ·exact(fV (S:=fun k=>k=bp\/own (.slice avv acc.length cvv) k) (tI.o.mono (fun _ _ h=>absurd h id)) jZ (fun _ _ h=>Or.inr h)).setCell (p:=⟨bp,0,none⟩) (fun _=>Or.inl rfl) _
  ·have N9:=O (show qj acc X=acc by
    unfold qj;rw[az];rw[LD,jk])
   clear jk;go_wp2;go_end0;exact⟨rfl,_,kB,by rw[N9.o];exact HO2.o,tI.o.mono (fun _ _ h=>absurd h id)⟩
theorem Wp{α:Type}{p:α->Bool}{l:List α}{x:α}(h:l[k]?=some x)(hp:p x=true)(hn:(l.take k).any p=false):l.find? p=some x:=by
 induction l generalizing k with
 |nil=>simp at h
 |cons a l ih =>
  cases k with
  |zero=>simp at h;subst h;rw[List.find?_cons_of_pos hp]
  |succ k =>
   simp only[List.getElem?_cons_succ]at h;simp only[List.take_succ_cons,List.any_cons,eM]at hn;rw[List.find?_cons_of_neg (by rw[hn.1];exact gM)];exact ih h hn.2
theorem Se{α:Type}{p:α->Bool}{l:List α}(hn:l.any p=false):l.find? p=none:=by
 rw[List.find?_eq_none];intro x hx;have:=(eY.1 hn) x hx;exact this
def ajE(w:World)(gs:List (aP bE))(o:gA)(proxy:Bool)(aK:aj)(i:Value)(wr:World):Prop :=
 ∃k:Nat,k<=gs.length/\i=.int .i64 k/\(gs.take k).any (mX o proxy aK)=false/\Fr aS w wr
theorem Wq(base:Nat)(w:World)(b:Nat)(gv wv:Value)(gs:List (aP bE))(ws:List (bJ bE))(o:gA)(proxy:Bool)(aK:aj)(h:dE base w b gv wv gs ws) :
  aB 56 #[.pointer (some ⟨b,0,none⟩),.agg o.cells.toArray,.bool proxy,.string aK] w (tX base w (gs.find? (mX o proxy aK))):=by
 have HSA:=O (fun r U=>KZ r o proxy aK U);unfold gA.cells at *
 have uf:=h.lt;have lo:=h.low;have pd:Fr aS w _:=((ae aS w).alloc (.cells #[.bool o.aE,.string o.host,.int .i64 o.port] 32)).alloc (.cells eS 114);have b1:=aC (w.alloc (.cells #[.bool o.aE,.string o.host,.int .i64 o.port] 32)) (.cells eS 114);rw[show(w.alloc (.cells #[.bool o.aE,.string o.host,.int .i64 o.port] 32)).heap.size=w.heap.size+1 from aR]at b1
 have b0:((w.alloc (.cells #[.bool o.aE,.string o.host,.int .i64 o.port] 32)).alloc (.cells eS 114)).heap[w.heap.size]?=some (.cells #[.bool o.aE,.string o.host,.int .i64 o.port] 32 (0,0)):=by
  rw[Below.heap_alloc _ _ _ aR];exact aC w _
 have h1:=h.dm pd;have d0:=h1.c0;obtain⟨av,cv,hgv⟩:=h1.bH.form;subst hgv;have B0:=O b0;have B1:=O b1;clear b0 b1 h;go_enter func56,ntmps56;go_wp2_with fail
 clear d0;generalize (w.alloc (.cells _ 32)).alloc _=W at *
 go_loopw[17] (ajE W gs o proxy aK) (fun i _=>gs.length-(intOf i).toNat)
 case atStart=>exact⟨0,aQ _,rfl,rfl,ae _ _⟩
 case round =>
  obtain⟨k,hk,rfl,jk,cL⟩:=hrel;have HAN:=O jk;clear jk;have h2:=h1.dm cL;have c0:=O (cL.keep B0.o id);have c1:=O (cL.keep B1.o id);have yn:w.heap.size+1<wr.heap.size:=bj c1.o;by_cases fo:k<gs.length
  ·have pq:(k:Int)<(gs.length:Int):=ab;obtain⟨bk,c,dB,sN,r,eb,hr,hcell⟩:=h2.bH.at fo;cases dB;unfold maxLen at sN;have dT:=O (List.getElem?_eq_getElem fo);generalize gs[k]=g at dT hr;have hsg:KY o proxy aK r.cells=mX o proxy aK g:=BW hr o proxy aK;obtain⟨x,hx⟩:∃x,x=r.cells:=⟨_,rfl⟩;have lB:x.length=16:=by rw[hx];rfl
   rw[<-hx]at hcell eb;have ir:=fun W=>run_storeCells_new (P:=prog) W 114 #[.bool false,.string ⟨#[]⟩,.int .i64 0,.bool false,.string ⟨#[]⟩,.string ⟨#[]⟩,.int .i64 0,.string ⟨#[]⟩,.string ⟨#[]⟩,.string ⟨#[]⟩,.bool false,.string ⟨#[]⟩,.bool false,.slice none 0 0,.int .i64 0,.slice none 0 0] x (by rw[lB];rfl) eb;have DN:=O (show(prog.info? 114).map (·.size)=some x.length by rw[lB];kernel_rfl)
   have gS:Fr aS wr (wr.alloc (.cells x.toArray 114)):=(ae aS wr).alloc _;have tR:=O (aC wr (.cells x.toArray 114));have HSM:=O (show∀U,aB 109 #[.agg x.toArray,.agg #[.bool o.aE,.string o.host,.int .i64 o.port],.bool proxy,.string aK] U fun e w'=>e=.returned (.bool (mX o proxy aK g))/\Fr aS U w' from fun U=>by
    have:=HSA.o r U;rw[hx];refine this.mono ?_;rintro e w' h';rw[<-hsg];exact h')
   have HR:=O (hr.mono (fun _ _ h=>h.dm gS));have r_:=O (cL.trans gS);have ML:wr.heap.size<(wr.alloc (.cells x.toArray 114)).heap.size:=aR;have HX:=O hx;have c0a:=O (gS.keep c0.o id);have c1a:=O (gS.keep c1.o id);clear hx eb hr hsg gS
   go_wp2_with (first|((with_reducible refine di 20 ?_);refine a_ rfl 114 (.tmp 19) rfl bk (k*16) rfl x _ hcell underlying114 rfl DN.o ?_)|((with_reducible refine di 21 ?_);refine aH rfl 114 (.tmp 11) rfl wr.heap.size rfl _ x.toArray (0,0) _ tR.o underlying114 rfl (by rw[aZ];exact DN.o) ?_)|((with_reducible refine di 22 ?_);refine aH rfl 32 (.tmp 5) rfl w.heap.size rfl _ _ (0,0) _ c0a.o underlying32 rfl af ?_)|fail)
   clear ir hcell;generalize wr.alloc (.cells x.toArray 114)=V at *
   refine(HSM.o V).mono ?_;rintro e u1⟨rfl,dr⟩;cases pj:mX o proxy aK g
   ·have HN:=O (any_take_succ dT.o HAN.o pj);clear pj HSM;go_wp2;go_roundw
    case rel=>exact⟨k+1,ab,bg,HN.o,r_.o.trans dr⟩
    case measure=>simp[intOf];omega
   ·have u_:=O (Wp dT.o pj HAN.o);have aps:=O (dr.keep tR.o id);have hub:base<=u1.heap.size:=by have:=dr.size;have:=h1.lt;have:=cL.size;omega
    have fD:=O (uE base r g u1 hub (HR.o.mono (fun _ _ h=>h.dm dr)));rw[<-HX.o]at fD;have c1b:=O (dr.keep c1a.o id);have lC:=O (pd.trans (r_.o.trans dr));clear pj HSM;go_wp2_with (first|((with_reducible refine di 26 ?_);refine aH rfl 114 (.tmp 11) rfl wr.heap.size rfl _ x.toArray (0,0) _ aps.o underlying114 rfl (by rw[aZ];exact DN.o) ?_)|fail)
    refine fD.o.mono ?_;intro e w3 NK;obtain⟨r3,rfl,rF,qM,iz⟩:=NK;have b3:=O (iz.keep c1b.o id);have yL:(prog.info? 114).map (·.size)=some r3.cells.toArray.size:=af;have iA:=lC.o.trans iz;obtain⟨y,hy⟩:∃y,y=r3.cells:=⟨_,rfl⟩;have HY:=O hy;rw[<-hy]at yL qM ⊢;have EP:=O (bX qM);have C7:=O (show eS.size=y.toArray.size by rw[hy];rfl);clear hy fD
    go_wp2_with (first|((with_reducible refine cW 114 ?_);refine aF rfl 114 (.tmp 8) (.tmp 27) rfl (w.heap.size+1) y.toArray rfl rfl _ eS b3.o yL C7.o EP.o ?_)|fail)
    have rO:rY base w3 (one (w.heap.size+1)):=by
     rintro j rfl hj;exact⟨ab,fun c f e=>by rw[b3.o]at e;cases e⟩
    have kH:Fr (one (w.heap.size+1)) w3 (w3.setRow (w.heap.size+1) y.toArray):=(ae (one (w.heap.size+1)) w3).setRow (fun _=>rfl) _;refine aU (results_cell_tmp bC _ _ (w.heap.size+1) 114 y.toArray (0,0) _ rfl (aY w3 (w.heap.size+1) _ _ _ _ b3.o) underlying114 rfl yL) rfl ?_;have D2:∀u∈r3.cells,u.oneCell'=true:=by rw[<-HY.o];exact qM
    rw[HY.o]at *
    refine⟨iA.setRow (fun h=>absurd h ab) _,?_⟩;rw[u_.o];exact⟨r3,rfl,rF.mono (fun _ _ h=>h.fr kH rO),D2⟩
  ·have pq:¬(k:Int)<(gs.length:Int):=ab;have u_:=O (Se (p:=mX o proxy aK) (l:=gs) (by have h:=HAN.o;rwa [aD ab]at h));have HF:=O (pd.trans cL);go_wp2_with (first|((with_reducible refine cW 114 ?_);refine aF rfl 114 (.tmp 8) (.tmp 29) rfl (w.heap.size+1) eS rfl rfl _ eS c1.o af rfl yi ?_)|fail)
   refine aU (results_cell_tmp bC _ _ (w.heap.size+1) 114 eS (0,0) _ rfl (aY wr (w.heap.size+1) _ _ _ _ c1.o) underlying114 rfl af) rfl ?_;refine⟨HF.o.setRow (fun h=>absurd h ab) _,?_⟩;rw[u_.o];rfl
theorem IP(base:Nat)(w:World)(b:Nat)(v:Value)(ps:List eo)(h:eP base w b v ps)(hlen:ps.length<1000000) :
  aB 80 #[.pointer (some ⟨b,0,none⟩)] w fun e w'=>∃b' v',e=.returned (.pointer (some ⟨b',0,none⟩))/\eP w.heap.size w' b' v' ps/\Fr aS w w':=by
 have HL:=O (zO base w b v ps h hlen);clear h;go_enter func80,ntmps80;go_wp2_with fail
 refine HL.o.mono ?_;rintro e u⟨v',rfl,ho,hf⟩;have gS:Fr aS u (u.alloc (.cells #[v'] 92)):=(ae aS u).alloc _;have HR:=O (show eP w.heap.size (u.alloc (.cells #[v'] 92)) u.heap.size v' ps from⟨hf.size,aC _ _,ho.fr gS (fun _ _ h=>h)⟩);have HF:=O (hf.trans gS);obtain⟨a',c',se⟩:=ho.form;rw[ai]at se;subst se;clear ho HL hf gS;go_wp2;go_ret;exact⟨_,_,rfl,HR.o,HF.o⟩
