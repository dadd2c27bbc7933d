/- Lemmas for the law's walk. -/
import Derived.Test.YtjndhcngnghpiaaGreatDoorPn12
set_option maxRecDepth 100000
set_option maxHeartbeats 16000000
set_option linter.unusedSimpArgs false
namespace Go.Proofs.YtjndhcngnghpiaaGreatDoor
open Go.Proofs.Tryz
open Go.RowKit
variable {base b c k g:Nat} {w:World} {a:eQ} {r n:Bs} {v:Value} {ps:List jn} {p:jn}
def zC(ws:List (bI bE))(m:bI bE):List (bI bE) :=
 let l:=(ma m.o m.proxy ws).1++[m]
 l.drop (l.length-8)
theorem U6(ws:List (bI bE))(m:bI bE):(zC ws m).length<=8:=by
 unfold zC;simp only[bJ];omega
def Gb(base:Nat)(w:World)(b:Nat)(gv wv:Value)(gs:List (aP bE))(ws:List (bI bE))(e:Ending)(w':World):Prop :=
 e=.returned (.tuple #[])/\kr base w b gv wv gs ws w'
theorem NA{base:Nat}{w3 w4:World}{b:Nat}{gv wv:Value}{gs:List (aP bE)}{fs:List (bI bE)}{m:bI bE}{r3:bI Value}{rs:List (bI Value)}{gg cap:Nat}(h3:dD base w3 b gv wv gs fs)
  (ho:OwnRows base 129 13 w3 wv (rs.map bI.cells))(ko:kT (bI.Reads (du base w3)) rs fs)(rq:bI.Reads (du base w3) r3 m)(qE:∀u∈r3.cells,u.oneCell'=true)(kD:Fr (own wv) w3 w4)
  (eZ:w4.ownsRow base 129 13 (.slice (some ⟨gg,0,none⟩) (fs.length+1) cap) (fs.length+1) ((rs.map bI.cells).flatten++r3.cells))(dP:wv.ownBlock=some gg\/w3.heap.size<=gg) :
  dD base (w4.setCell ⟨b,1,none⟩ (.slice (some ⟨gg,0,none⟩) (fs.length+1) cap)) b gv (.slice (some ⟨gg,0,none⟩) (fs.length+1) cap) gs (fs++[m]) /\
  Fr (dv b gv wv) w3 (w4.setCell ⟨b,1,none⟩ (.slice (some ⟨gg,0,none⟩) (fs.length+1) cap))/\∀k,dv b gv (.slice (some ⟨gg,0,none⟩) (fs.length+1) cap) k->dv b gv wv k\/w3.heap.size<=k:=by
 have k_:=h3.low;have uT:=ko.len;have DF:rR base w3 (own wv):=ho.off (ay _) ag;have tK:kT (bI.Reads (du base w4)) (rs++[r3]) (fs++[m]) :=
  (ko.mono (fun _ _ h=>h.mono (fun _ _ h=>h.fr kD DF))).app (.cons (rq.mono (fun _ _ h=>h.fr kD DF)) .nil)
 have BU:jY base w4 (.slice (some ⟨gg,0,none⟩) (fs.length+1) cap) (fs++[m]):=by
  refine⟨rs++[r3],⟨?_,?_⟩,tK⟩
  ·intro x hx;rw[bG]at hx;rcases bQ.1 hx with hx|hx
   ·exact ho.1 x hx
   ·simp at hx;subst hx;exact⟨rfl,qE⟩
  ·rw[bG,ed,aN,ai,uT];simpa using eZ
 have sO:=kD.keep h3.eJ h3.wb;have qt:fZ base w4 gv gs:=h3.bU.fr kD DF (fun k hk hg=>h3.gw hk hg);have T':Fr (dv b gv wv) w3 w4:=kD.mono (fun _ _ hk=>Or.inr (Or.inr hk));refine⟨dD.adq k_ sO qt BU,T'.setCell (p:=⟨b,1,none⟩) (fun _=>Or.inl rfl) _,?_⟩;rintro k(hk|hk|hk)
 ·exact Or.inl (Or.inl hk)
 ·exact Or.inl (Or.inr (Or.inl hk))
 ·have e:gg=k:=by simpa[own,Value.ownBlock]using hk
  subst e;rcases dP with dP|dP
  ·exact Or.inl (Or.inr (Or.inr dP))
  ·exact Or.inr dP
theorem nv.ret{w':World}{gv wv:Value}{gs:List (aP bE)}{u:List (bI bE)×Option (bI bE)}{e:Ending}(h:nv base w b gv wv gs u e w'):∃v,e=.returned v:=by
 obtain⟨_,h⟩:=h;split at h
 ·exact⟨_,h⟩
 ·obtain⟨r,h,_⟩:=h;exact⟨_,h⟩
theorem U7{r:bI Value}{n:Nat}(h1:r.a.dom=.slice a n c):∀u∈r.cells,u.oneCell'=true:=by
 intro u hu;simp only[bI.cells,bB,cz,dU]at hu;rcases hu with rfl|rfl|rfl|rfl|rfl|rfl|rfl|rfl|rfl|rfl|rfl|rfl|rfl<;>first|rfl|(rw[h1];rfl)
theorem NB(base:Nat)(w:World)(b:Nat)(gv wv:Value)(gs:List (aP bE))(ws:List (bI bE))(g:bI Value)(m:bI bE)(h:dD base w b gv wv gs ws)(hg:g.Reads (du base w) m)(Ew:ws.length<17179869184) :
  aB 80 #[.pointer (some ⟨b,0,none⟩),.agg g.cells.toArray] w (Gb base w b gv wv gs (zC ws m)):=by
 obtain⟨x,hx⟩:∃x,x=g.cells:=⟨_,rfl⟩;have lp:x.length=13:=by rw[hx];rfl
 have tV:=h.lt;have k_:=h.low;obtain⟨ad,cd,xl⟩:=hg.2.2.2.2.2.2.2.2.2.2.rd.form;have oW:Fr aS w (w.alloc (.cells x.toArray 129)):=(ae aS w).alloc _;have h1:=h.di oW;have Fh:=hg.mono (fun _ _ h=>h.di oW);have p_:(w.alloc (.cells x.toArray 129)).heap[w.heap.size]?=some (.cells x.toArray 129 (0,0)):=aC _ _
 have mZ:∀i u,g.cells[i]?=some u->(w.alloc (.cells x.toArray 129)).cell? ⟨w.heap.size,i,none⟩=some u:=fun i u hu=>by
  rw[<-hx]at hu;simp only[World.cell?,p_];simpa using hu
 have c0:=mZ 0 _ rfl;have c1:=mZ 1 _ rfl;have c2:=mZ 2 _ rfl;have c3:=mZ 3 _ rfl;have rp:=O (KL base _ b gv wv gs ws g.o g.proxy h1 ab);have tG:=O p_;have HG:=O Fh;have HX:=O hx;have HDV:=O xl;rw[<-hx];clear hg Fh p_ mZ hx xl;go_enter func80,ntmps80;go_wp2_with fail
 clear c0 c1 c2 c3;have anK:w.heap.size<(w.alloc (.cells x.toArray 129)).heap.size:=aR;generalize w.alloc (.cells x.toArray 129)=W at *
 refine rp.o.mono ?_;intro e w2 hpd;obtain⟨rv,rfl⟩:=hpd.ret;obtain⟨⟨gv2,wv2,h2,dz,KF⟩,_⟩:=hpd;have mO:=h1.off;have hup:∀j,dv b gv wv j->j<w.heap.size:=fun j hj=>by
  rcases hj with hj|hj|hj
  ·omega
  ·obtain⟨cc,e⟩:=h.tN hj;exact bj e
  ·obtain⟨cc,e⟩:=h.vP hj;exact bj e
 have pV:¬dv b gv wv w.heap.size:=fun hh=>by have:=hup _ hh;omega
 have zy:=O (dz.keep tG.o pV);have xb:=HG.o.mono (fun _ _ h=>h.fr dz mO);have hll:=F' g.o g.proxy ws;have je:Fr (dv b gv wv) w w2:=fU (oW.mono (fun _ _ h=>absurd h id)) dz (fun _ _ h=>h);have U8:∀j,dv b gv2 wv2 j->dv b gv wv j\/w.heap.size<j:=fun j hj=>by
  rcases KF j hj with h|h
  ·exact Or.inl h
  ·exact Or.inr ab
 obtain⟨fs,kx⟩:∃fs,fs=(ma g.o g.proxy ws).1:=⟨_,rfl⟩;rw[<-kx]at h2 hll;have Dr:=O (show zC ws m=(fs++[m]).drop (fs.length+1-8)by
  unfold zC;rw[<-xb.1, <-xb.2.1, <-kx];simp)
 have xp:=xb.2.2.2.2.2.2.2.2.2.2;rw[HDV.o]at xp;have c12:w2.cell? ⟨w.heap.size,12,none⟩=some (.slice ad m.a.dom.length cd):=by
  have e:=HX.o;have hd:=HDV.o;have hu:x[12]?=some (.slice ad m.a.dom.length cd):=by rw[e, <-hd];rfl
  simp only[World.cell?,zy.o];simpa using hu
 have CL:=O (rF base _ _ _ xp);have Te:=O xb;have auy:w.heap.size<w2.heap.size:=bj zy.o;clear rp oW dz mO kx h1 xb xp KF tG HG anK;go_wp2_with fail
 refine CL.o.mono ?_;rintro e w3⟨a3,c3,rfl,TF,il⟩;have DH:=il.keep zy.o id;have auz:w.heap.size<w3.heap.size:=bj DH;have ahQ:w3.cell? ⟨w.heap.size,12,none⟩=some (.slice ad m.a.dom.length cd):=by
  have e:=HX.o;have hd:=HDV.o;have hu:x[12]?=some (.slice ad m.a.dom.length cd):=by rw[e, <-hd];rfl
  simp only[World.cell?,DH];simpa using hu
 have f12:w3.frozen? ⟨w.heap.size,12,none⟩=false:=by simp[World.frozen?,DH]
 have rG:rR base w3 (one w.heap.size):=by
  rintro j rfl _;exact⟨ab,fun c f e=>by rw[DH]at e;cases e⟩
 have kx:Fr (one w.heap.size) w3 (w3.setCell ⟨w.heap.size,12,none⟩ (.slice a3 m.a.dom.length c3)):=(ae (one w.heap.size) w3).setCell (p:=⟨w.heap.size,12,none⟩) (fun _=>rfl) _;have Zb:¬dv b gv2 wv2 w.heap.size:=fun hh=>by
  rcases U8 _ hh with h|h
  ·exact pV h
  ·omega
 have h4:=(h2.di il).fr kx rG (fun hh=>Zb (Or.inl (by have e:b=w.heap.size:=hh;rw[e]))) (fun j hj hh=>Zb (Or.inr (Or.inl (by have e:j=w.heap.size:=hh;rw[<-e];exact hj)))) (fun j hj hh=>Zb (Or.inr (Or.inr (by have e:j=w.heap.size:=hh;rw[<-e];exact hj))));have vn:(g.mP (.slice a3 m.a.dom.length c3)).Reads (du base (w3.setCell ⟨w.heap.size,12,none⟩ (.slice a3 m.a.dom.length c3))) m:=by
  have q:=Te.o;exact⟨q.1,q.2.1,q.2.2.1,q.2.2.2.1,q.2.2.2.2.1,q.2.2.2.2.2.1,q.2.2.2.2.2.2.1,q.2.2.2.2.2.2.2.1,q.2.2.2.2.2.2.2.2.1,q.2.2.2.2.2.2.2.2.2.1,TF.fr kx rG⟩
 have DK:∀u∈(g.mP (.slice a3 m.a.dom.length c3)).cells,u.oneCell'=true:=U7 rfl;have tK:=b_ DH 12 (.slice a3 m.a.dom.length c3);have hye:x.toArray.setIfInBounds 12 (.slice a3 m.a.dom.length c3)=(g.mP (.slice a3 m.a.dom.length c3)).cells.toArray:=by rw[HX.o];rfl
 rw[hye]at tK;have hFV:Fr (dv b gv wv) w (w3.setCell ⟨w.heap.size,12,none⟩ (.slice a3 m.a.dom.length c3)):=(je.trans (il.mono (fun _ _ h=>absurd h id))).setCell (p:=⟨w.heap.size,12,none⟩) (fun hl=>absurd hl aR) _;have H4:=O h4;have XB:=O vn;have abC:=O DK;have Y':=O tK;have hVl:w.heap.size<(w3.setCell ⟨w.heap.size,12,none⟩ (.slice a3 m.a.dom.length c3)).heap.size:=bj tK
 clear rG kx hye tK h4 vn DK h2 TF il DH CL Te Zb je;obtain⟨av,cv,UP⟩:=H4.o.waits.form;subst UP;have d1:=H4.o.c1;have e1:=H4.o.free 1;have om:∀i u,(g.mP (.slice a3 m.a.dom.length c3)).cells[i]?=some u->(w3.setCell ⟨w.heap.size,12,none⟩ (.slice a3 m.a.dom.length c3)).cell? ⟨w.heap.size,i,none⟩=some u:=fun i u hu=>by
  simp only[World.cell?,Y'.o];simpa using hu
 have x0:=om 0 _ rfl;have x1:=om 1 _ rfl;have x2:=om 2 _ rfl;have x3:=om 3 _ rfl;have x4:=om 4 _ rfl;have x5:=om 5 _ rfl;have x6:=om 6 _ rfl;have x7:=om 7 _ rfl;have x8:=om 8 _ rfl;have x9:=om 9 _ rfl;have Y7:=om 10 _ rfl;have Y8:=om 11 _ rfl;have x12:=om 12 _ rfl;obtain⟨i0,qp,o9,kQ,ld⟩:=info_parts F7;obtain⟨rs,ho,ko⟩:=H4.o.waits;have HO:=O ho;have pN:=O ko;have hbV:=H4.o.lt
 have cQ:(w3.setCell ⟨w.heap.size,12,none⟩ (.slice a3 m.a.dom.length c3)).ownsRow base 129 13 (.slice av fs.length cv) fs.length (rs.map bI.cells).flatten:=by
  have hh:=ho.2;rw[ai,ko.len]at hh;exact hh
 have Ai:¬own (.slice av fs.length cv) b:=H4.o.wb;clear ho ko om;go_wp2_with fail
 clear c12 ahQ f12;generalize w3.setCell ⟨w.heap.size,12,none⟩ (.slice a3 m.a.dom.length c3)=V at *
 simp only[bI.mP]at x0 x1 x2 x3 x4 x5 x6 x7 x8 x9 Y7 Y8 x12
 go_region_law ((with_reducible refine mL ⟨some 24,_,_,_,_,_⟩ ?_)
                refine step_append_lies _ bC _ _ _ bC base 129 i0 _ 13 168 underlying116 qp o9 kQ ld rfl ab (.slice av fs.length cv) fs.length _ bC (by repeat(first|exact cQ|apply World.ownsRow.alloc|apply World.ownsRow.drew)) ⟨V.heap.size,0,none⟩ 1 1 (g.mP (.slice a3 m.a.dom.length c3)).cells bC bC (kF V (g.mP (.slice a3 m.a.dom.length c3)).cells _) abC.o ab ft ab bH (V.heap.size+1) aR ?_
                intro gg cap w5 vG js dP acU
                have qR:Fr (own (.slice av fs.length cv)) V w5:=fl (by repeat(first|exact ae _ _|apply az|apply bz)) js (fun _ hk _=>hk)
                have k4:w5.cell? ⟨b,1,none⟩=some (.slice av fs.length cv):=(qR.cell (p:=⟨b,1,none⟩) hbV Ai).trans d1
                have e4:w5.frozen? ⟨b,1,none⟩=false:=(qR.frozen (p:=⟨b,1,none⟩) hbV Ai).trans e1)
 all_goals
  obtain⟨h5,hF5,Rb⟩:=NA (m:=m) H4.o HO.o pN.o XB.o abC.o qR vG (dP.imp id (fun h=>ab));have d5:=h5.c1;have e5:=h5.free 1;clear x0 x1 x2 x3 x4 x5 x6 x7 x8 x9 Y7 Y8 x12 d1 e1 k4 e4 js vG cQ qR;generalize w5.setCell ⟨b,1,none⟩ (.slice (some ⟨gg,0,none⟩) (fs.length+1) cap)=w6 at *
  have AI:(fs++[m]).length=fs.length+1:=aR;have Tb:=O AI;have ye:Fr (dv b gv wv) w w6:=hFV.step hF5 (fun k hk hb=>by
   rcases U8 k hb with h|h
   ·exact h
   ·omega)
  have ET:∀k,dv b gv2 (.slice (some ⟨gg,0,none⟩) (fs.length+1) cap) k->dv b gv wv k\/w.heap.size<=k:=fun k hk=>by
   rcases Rb k hk with h|h
   ·rcases U8 k h with h|h
    ·exact Or.inl h
    ·exact Or.inr ab
   ·exact Or.inr ab
  by_cases h8:8<=fs.length
  ·have h8':(8:Int)<(fs.length:Int)+1:=ab;obtain⟨n,hn⟩:∃n:Nat,fs.length+1=n+8:=⟨fs.length+1-8,ab⟩;rw[<-AI]at h5;obtain⟨rs5,Mq,EU⟩:=h5.waits;have Ns:=O (show(rs5.map bI.cells).length=fs.length+1 by rw[ai,EU.len,AI]);have qz:=O (F0 base gg cap 0 n (rs5.map bI.cells) w6 (by rw[Ns.o, <-AI];exact Mq) ab (by rw[Ns.o];omega));have Rc:=O hn;rw[Ns.o]at qz;clear hn AI;go_wp2_with fail
   rw[show((fs.length:Int)+1-8)=(n:Int)from by have:=Rc.o;omega];refine qz.o.mono ?_;rintro e w7⟨rfl,zc,nz⟩;obtain⟨h7,Tc,d7,e7⟩:=Ga (i:=0) (n:=n) h5 EU (by rw[Tb.o];exact zc) nz;rw[Tb.o,bw]at h7 Tc;rw[Tb.o]at d7;rw[List.take_zero,List.nil_append]at h7;have H7:=O h7;have Jb:=O Tc;clear h7 Tc qz zc EU Mq;go_wp2_with fail
   go_end0;refine⟨rfl,_,_,by rw[Dr.o,show fs.length+1-8=n from by have:=Rc.o;omega];exact H7.o,ye.step Jb.o (fun k hk hb=>by
    rcases ET k hb with h|h
    ·exact h
    ·omega),fun k hk=>ET k ?_⟩
   rcases hk with h|h|h
   ·exact Or.inl h
   ·exact Or.inr (Or.inl h)
   ·exact Or.inr (Or.inr h)
  ·have h8':¬(8:Int)<(fs.length:Int)+1:=ab;go_wp2_with fail
   go_end0;exact⟨rfl,_,_,by rw[Dr.o,show fs.length+1-8=0 from ab,eE];exact h5,ye,ET⟩
theorem zF(base:Nat)(w:World)(b:Nat)(v:Value)(ps:List ef)(h:eN base w b v ps)(hlen:ps.length<1000000) :
  aB 69 #[.pointer (some ⟨b,0,none⟩)] w fun e w'=>∃v',e=.returned v'/\OwnRows w.heap.size 137 12 w' v' (ps.map ef.cells)/\Fr aS w w':=by
 obtain⟨av,cv,hv⟩:=h.form;subst hv;have c0:=h.c0;have hc:=O (Zi _ _ w h.rows.at (by rw[ai];omega));clear h;go_enter func69,ntmps69;go_wp2_with fail
 refine hc.o.mono ?_;rintro e u⟨v',rfl,ho,hf⟩;obtain⟨a',c',rW⟩:=ho.form;subst rW;rw[ai]at ho;have HO:=O ho;clear ho;go_wp2;go_ret;exact⟨_,rfl,HO.o,hf⟩
def ef.uK(r:qO)(p:ef):Bool:=p.cW.kV r.cW&&(p.o.kV r.o&&(p.path.toList==r.path.toList&&p.query.toList==r.query.toList))
def ef.vS(o:gq)(p:ef):Bool:=p.cW.kV o||p.o.kV o
theorem zG(o:gq)(pa qu:aj)(o':gq)(pa' qu':aj)(w:World):(binOp .eql 26 (.agg #[.bool o.aE,.string o.host,.int .i64 o.port,.string pa,.string qu]) (.agg #[.bool o'.aE,.string o'.host,.int .i64 o'.port,.string pa',.string qu'])).run prog w=.ok (.bool (o.kV o'&&(pa.toList==pa'.toList&&qu.toList==qu'.toList))) w:=by
 go_simp;simp only[show∀(P:Prop) [Decidable P] (W:World) (b:Bool),(if P then(Result.ok (Value.bool b) W:Result Value)else .ok (.bool false) W)=.ok (.bool (decide P&&b)) W from fun P _ W b=>by by_cases h:P<;>simp[h]]
 congr 2
 rw[fb];simp only[gq.kV,cF,dF,dT,and_assoc,iE]
theorem KV(p:ef)(r:gl Value)(hs:List gY)(br:Nat)(w:World)(hr:w.heap[br]?=some (.cells r.cells.toArray 29 (0,0))) :
  aB 142 #[.agg p.cells.toArray,.pointer (some ⟨br,0,none⟩)] w fun e w'=>e=.returned (.bool (p.uK (r.dS hs)))/\Fr aS w w':=by
 have heq:=jo p.cW r.cW;have heu:=zG p.o p.path p.query r.o r.path r.query;have gO:Fr aS w (w.alloc (.cells p.cells.toArray 137)):=(ae aS w).alloc _;have g0:=gO.keep hr id;have g1:(w.alloc (.cells p.cells.toArray 137)).heap[w.heap.size]?=some (.cells p.cells.toArray 137 (0,0)):=aC _ _
 have hc:∀i u,r.cells[i]?=some u->(w.alloc (.cells p.cells.toArray 137)).cell? ⟨br,i,none⟩=some u:=fun i u hu=>by simp only[World.cell?,g0];simpa using hu
 have c1:=hc 1 _ rfl;have c2:=hc 2 _ rfl;have c3:=hc 3 _ rfl;have c4:=hc 4 _ rfl;have c5:=hc 5 _ rfl;have c6:=hc 6 _ rfl;have c7:=hc 7 _ rfl;have c8:=hc 8 _ rfl;have HF:=O gO;clear hr g0 g1 hc gO;unfold ef.cells at *
 cases e1:p.cW.kV r.cW
 ·have HR:=O (show p.uK (r.dS hs)=false by unfold ef.uK gl.dS;simp only;rw[e1];rfl);rw[e1]at heq;clear e1;go_enter func142,ntmps142;go_wp2;go_ret;exact⟨by rw[HR.o];rfl,HF.o⟩
 ·have HR:=O (show p.uK (r.dS hs)=(p.o.kV r.o&&(p.path.toList==r.path.toList&&p.query.toList==r.query.toList))by unfold ef.uK gl.dS;simp only;rw[e1];rfl);rw[e1]at heq;generalize (p.o.kV r.o&&(p.path.toList==r.path.toList&&p.query.toList==r.query.toList))=res at *
  clear e1;go_enter func142,ntmps142;go_wp2;go_ret;exact⟨by rw[HR.o];rfl,HF.o⟩
theorem KW(p:ef)(o:gq)(bo:Nat)(w:World)(ho:w.heap[bo]?=some (.cells #[.bool o.aE,.string o.host,.int .i64 o.port] 24 (0,0))) :
  aB 152 #[.agg p.cells.toArray,.pointer (some ⟨bo,0,none⟩)] w fun e w'=>e=.returned (.bool (p.vS o))/\Fr aS w w':=by
 have heq:=jo p.cW o;have heo:=jo p.o o;have gO:Fr aS w (w.alloc (.cells p.cells.toArray 137)):=(ae aS w).alloc _;have g0:=gO.keep ho id;have c0:(w.alloc (.cells p.cells.toArray 137)).cell? ⟨bo,0,none⟩=some (.bool o.aE):=by simp[World.cell?,g0]
 have c1:(w.alloc (.cells p.cells.toArray 137)).cell? ⟨bo,1,none⟩=some (.string o.host):=by simp[World.cell?,g0]
 have c2:(w.alloc (.cells p.cells.toArray 137)).cell? ⟨bo,2,none⟩=some (.int .i64 o.port):=by simp[World.cell?,g0]
 have HF:=O gO;clear ho g0 gO;unfold ef.cells at *
 cases e1:p.cW.kV o
 ·have HR:=O (show p.vS o=p.o.kV o by unfold ef.vS;rw[e1];rfl);rw[e1]at heq;generalize p.o.kV o=res at *
  clear e1;go_enter func152,ntmps152;go_wp2;go_ret;exact⟨by rw[HR.o];rfl,HF.o⟩
 ·have HR:=O (show p.vS o=true by unfold ef.vS;rw[e1];rfl);rw[e1]at heq;clear e1;go_enter func152,ntmps152;go_wp2;go_ret;exact⟨by rw[HR.o];rfl,HF.o⟩
def wL(M:Nat)(ps:List jn):Prop:=∀p∈ps,p.1.length<=M/\p.2.length<=M
theorem xv(M:Nat):∀(f:Nat) (ps:List jn) (r:Bs) (q:List jn×Bs),r.length<=M->wL M ps->gQ f ps r=.ok q->wL M q.1
 |0,ps,r,q,_,hp,h=>by rw[gQ]at h;cases h;exact hp
 |f+1,ps,r,q,hr,hp,h=>by
  rw[gQ]at h;cases hq:kR ps r with
  |error e=>rw[hq]at h;cases h
  |ok p =>
   obtain⟨p,r1⟩:=p;rw[hq]at h;have hle:=tD hq;have hg:=oA r1;have hn:wL M (ps++[p]):=by
    intro a ha;rcases bQ.1 ha with g|g
    ·exact hp a g
    ·simp at g;subst g;exact⟨ab,ab⟩
   simp only at h;split at h
   ·split at h
    ·exact xv M f _ _ q ab hn h
    ·cases h;exact hn
   ·cases h
structure ni.Le (M:Nat) (x:ni):Prop where
 scheme:x.scheme.length<=M
 token:x.token.length<=M
 yX:wL M x.params
theorem NJ{M:Nat}{x:ni}{z:Bs}(hr:r.length<=M)(h:o7 k r=.ok (x,z)):x.Le M:=by
 have hw:=qY r;have hb:=lC (ir r);unfold o7 at h;split at h
 ·cases h
 split at h
 ·cases h
 split at h
 ·cases h;exact⟨by show(gX r).length<=M;omega,aQ _,fun p hp=>by cases hp⟩
 split at h
 ·cases h
 split at h
 ·rename_i q hq;obtain⟨t,z'⟩:=q;have:=CI hq;cases h;exact⟨by show(gX r).length<=M;omega,by show t.length<=M;omega,fun p hp=>by cases hp⟩
 ·split at h
  ·cases h
  ·rename_i q hq;have:=xv M _ _ _ _ ab (fun p hp=>by cases hp) hq;cases h;exact⟨by show(gX r).length<=M;omega,aQ _,this⟩
theorem zH(M:Nat):∀(f:Nat) (acc:List ni) (r:Bs) (l:List ni),r.length<=M->(∀x∈acc,x.Le M)->jW f acc r=.ok l->∀x∈l,x.Le M
 |0,acc,r,l,_,ha,h=>by rw[jW]at h;cases h;exact ha
 |f+1,acc,r,l,hr,ha,h=>by
  rw[jW]at h;split at h
  ·cases h;exact ha
  ·cases ho:o7 acc.length (iz r)with
   |error e=>rw[ho]at h;cases h
   |ok q =>
    obtain⟨x,r1⟩:=q;rw[ho]at h;have h1:=Cg ho;have h2:=oA r;have hx:=NJ (M:=M) ab ho;refine zH M f _ _ l ab (fun y hy=>?_) h;rcases bQ.1 hy with g|g
    ·exact ha y g
    ·simp at g;subst g;exact hx
theorem BF{l:List ni}(h:mq r=.ok l):∀x∈l,x.Le r.length:=by
 unfold mq at h;split at h
 ·cases h
 ·exact zH _ _ _ _ _ (ay _) (fun x hx=>by cases hx) h
theorem BG{l:List ni}(h:mq r=.ok l):r.length<=3000:=by
 unfold mq at h;split at h
 ·cases h
 ·omega
theorem Rs{l:List ni}(h:mq r=.ok l):∀x∈l,x.Fit:=by
 intro x hx;have h1:=BF h x hx;have h2:=BG h;have h3:=(J7 h).1 x hx;exact⟨by have:=h1.scheme;omega,by have:=h1.token;omega,h3.qZ,fun p hp=>by have:=h1.yX p hp;omega⟩
theorem Strs.up{b':Nat}{ss:List aj}(h:Strs b' w v ss)(hb:base<=b'):Strs base w v ss:=by
 obtain⟨h1,h2⟩:=h;refine⟨h1,?_⟩;rcases h2 with h2|⟨g,cap,cur,hv,hg,r⟩
 ·exact Or.inl h2
 ·exact Or.inr ⟨g,cap,cur,hv,aF hb hg,r⟩
def ln(ps:List jn):Prop:=ps.length<=1000/\∀p∈ps,p.1.length<=100000/\p.2.length<=100000
def pg(ps:List jn)(n:Bs):List aj:=(xO ps n).map bA
theorem Rx(ps:List jn)(n:Bs):(pg ps n).map (·.data.toList)=xO ps n:=by
 unfold pg;rw[ic]
 conv=>rhs;rw[<-List.map_id (xO ps n)]
 exact List.map_congr_left (fun x _=>by simp[bA])
theorem D0(ps:List jn)(n:Bs):(xO ps n).length<=ps.length:=by unfold xO;rw[ai];exact bT _ _
theorem Vu{x:Bs}(h:x∈xO ps n):∃p∈ps,x=p.2:=by
 unfold xO at h;obtain⟨p,hp,rfl⟩:=bZ.1 h;exact⟨p,(fc.1 hp).1,rfl⟩
theorem Vv(h:ps[k]?=some p)(hs:dH p.1 n=true):pg (ps.take (k+1)) n=pg (ps.take k) n++[bA p.2]:=by
 unfold pg xO;rw[dW h,cG];simp[hs]
theorem Ry(h:ps[k]?=some p)(hs:dH p.1 n=false):pg (ps.take (k+1)) n=pg (ps.take k) n:=by
 unfold pg xO;rw[dW h,cG];simp[hs]
theorem Lh{sep:Bs}(aip:sep.length=2):∀(l:List Bs) (M:Nat),(∀x∈l,x.length+2<=M)->(Lib.join l sep).length<=l.length*M
 |[],M,_=>by simp[Lib.join]
 |[x],M,h=>by have:=h x aR;simp[Lib.join];omega
 |x :: y :: l,M,h=>by
  have ih:=Lh aip (y :: l) M (fun z hz=>h z (bP _ hz));have hx:=h x (cX ..);rw[Yn];simp only[aN,List.length_cons,aip]at ih ⊢;rw[ib (l.length+1)];omega
theorem Gl(n:Bs)(hz:ln ps):(lg ps n).length<=100002000:=by
 unfold lg;have h:=Lh (sep:=[44,32]) rfl (xO ps n) 100002 (fun x hx=>by obtain⟨p,hp,rfl⟩:=Vu hx;have:=(hz.2 p hp).2;omega);have h2:=D0 ps n;have h3:=hz.1;have h4:(xO ps n).length*100002<=1000*100002:=bO _ ab;omega
theorem Rz(base:Nat)(v:Value)(ss:List aj)(w:World)(hv:Strs base w v ss)(hn:ss.length<=1000)(hlen:(Lib.join (ss.map (·.data.toList)) [44,32]).length<=140737488355328) :
  aB 206 #[v,.string ⟨#[44,32]⟩] w fun e w'=>e=.returned (.string (bA (Lib.join (ss.map (·.data.toList)) [44,32])))/\Fr aS w w':=by
 rcases hv.at with ⟨a,c,rfl,rfl,_⟩|⟨bk,o,c,rfl,h1,h2,h3,h4⟩
 ·exact(strings_Join_none _ _ _ _).mono (by rintro e w1 ⟨rfl,rfl⟩;exact⟨rfl,ae _ _⟩)
 ·exact(strings_Join bk o c ss ⟨#[44,32]⟩ w h4 h3 ab h1 hlen).mono (by rintro e w1 ⟨rfl,hb⟩;exact⟨rfl,fj hb⟩)
def aiq(ps:List jn)(n:Bs)(w:World)(out t:Value)(wr:World):Prop :=
 ∃k:Nat,k<=ps.length/\t=.int .i64 k/\Strs w.heap.size wr out (pg (ps.take k) n)/\Fr aS w wr
def NN(ps:List jn)(n:Bs):Value:=.tuple #[.string (bA (lg ps n)),.bool (qo ps n)]
theorem RA(v:Value)(ps:List jn)(name:aj)(w:World)(h:lH w v ps)(hz:ln ps)(hn:name.size<17592186044416) :
  aB 195 #[v,.string name] w fun e w'=>e=.returned (NN ps name.data.toList)/\Fr aS w w':=by
 obtain⟨av,cv,hv⟩:=h.form;subst hv;have HZ:=O hz;have Ms:=hz.1;clear hz;go_enter func195,ntmps195;go_wp2;go_loopw[6,11] (aiq ps name.data.toList w) (fun _ t _=>ps.length-(intOf t).toNat)
 case atStart=>exact⟨0,aQ _,rfl,kI _ _,ae _ _⟩
 case round =>
  obtain⟨k,hk,rfl,ho,cL⟩:=hrel;obtain⟨ao,co,Mp⟩:=ho.form;by_cases fk:k<ps.length
  ·have o_:(k:Int)<(ps.length:Int):=ab;have dP:=O (List.getElem?_eq_getElem fk);have Xp:=O (HZ.o.2 _ (bM fk));generalize ps[k]=q at dP Xp;obtain⟨nm,vl⟩:=q;obtain⟨bk,of,rfl,h1,h2,c0,c1⟩:=lH.cells (bh h cL) dP.o;unfold maxLen at h2;simp only at c0 c1;obtain⟨wb,jQ⟩:∃wb,wb=wr.alloc (.cells #[.string (bA nm),.string (bA vl)] 142):=⟨_,rfl⟩;have kf:Fr aS wr wb:=by rw[jQ];exact(ae aS wr).alloc _
   have xm:wb.heap[wr.heap.size]?=some (.cells #[.string (bA nm),.string (bA vl)] 142 (0,0)):=by rw[jQ];exact aC _ _
   have qL:=O jQ;clear jQ;go_wp2_with fail
   rw[<-qL.o];refine(ml (bA nm) name wb (by have h:=Xp.o.1;show nm.length<_;omega) hn).mono ?_;rintro e w8⟨rfl,ru⟩;rw[fT];have QI:=O ((cL.trans kf).trans ru);have SU:=ho.fr (kf.trans ru) (fun _ h=>h.elim);rw[Mp]at SU;have SM:=O (show(pg (ps.take k) name.data.toList).length<=1000 from by
    unfold pg;rw[ai];have:=D0 (ps.take k) name.data.toList;rw[aM]at this;omega)
   have auU:w.heap.size<=w8.heap.size:=QI.o.size;cases oZ:dH nm name.data.toList
   ·have pV:=O (Ry dP.o oZ);go_wp2;go_roundw
    case rel=>exact⟨k+1,ab,bg,by rw[pV.o];exact SU,QI.o⟩
    case measure=>simp[intOf];omega
   ·have pV:=O (Vv dP.o oZ);have hb8:=ru.keep xm id;have k1:w8.cell? ⟨wr.heap.size,1,none⟩=some (.string (bA vl)):=by simp[World.cell?,hb8]
    generalize pg (ps.take k) name.data.toList=vs at *
    clear oZ;go_wp2_with (at_builtin;refine nH rfl _ _ rfl w.heap.size (.slice ao vs.length co) vs rfl (by apply iy;exact SU) ⟨w8.heap.size,0,none⟩ 1 (bA vl) rfl (jk _ _ _ _) (by have:=SM.o;omega) bH ?_;intro v' w9 uN hg9)
    have Xo:=O ((QI.o.alloc (.cells #[.string (bA vl)] 9)).fP hg9 (fun j hj=>SU.block j hj));go_roundw
    case rel=>exact⟨k+1,ab,bg,by rw[pV.o];exact uN,Xo.o⟩
    case measure=>simp[intOf];omega
  ·have o_:¬(k:Int)<(ps.length:Int):=ab;have Qv:ps.take k=ps:=aD ab;rw[Qv]at ho Mp;subst Mp;have SM:=D0 ps name.data.toList;have SN:(pg ps name.data.toList).length=(xO ps name.data.toList).length:=by unfold pg;rw[ai]
   have HJ:=O (show Lib.join ((pg ps name.data.toList).map (·.data.toList)) [44,32]=lg ps name.data.toList by rw[Rx];rfl);have HB:=O (show decide (0<(pg ps name.data.toList).length)=qo ps name.data.toList by
    unfold qo;rw[SN];cases xO ps name.data.toList with
    |nil=>rfl
    |cons a l=>simp)
   have hJ:=O (Rz w.heap.size _ (pg ps name.data.toList) wr ho ab (by rw[HJ.o];have:=Gl name.data.toList HZ.o;omega));rw[HJ.o]at hJ;clear SN SM;generalize hvs:pg ps name.data.toList=vs at *
   have HVS:=O hvs;clear hvs;go_wp2_with fail
   refine hJ.o.mono ?_;rintro e u⟨rfl,xZ⟩;go_wp2;go_ret2;refine⟨?_,cL.trans xZ⟩;unfold NN;rw[<-HB.o];rfl
theorem vU(v:Value)(ps:List jn)(n:Bs)(w:World)(h:lH w v ps)(hz:ln ps)(hn:n.length<1000)(s:aj)(b:Bool)(hs:lg ps n=s.data.toList)(hb:qo ps n=b) :
  aB 195 #[v,.string (bA n)] w fun e w'=>e=.returned (.tuple #[.string s,.bool b])/\Fr aS w w':=by
 refine(RA v ps (bA n) w h hz (by show n.length<_;omega)).mono ?_;rintro e u⟨rfl,hf⟩;refine⟨?_,hf⟩;unfold NN;rw[fT,hs,hb,TK]
theorem tR(ps:List jn)(n:Bs)(hz:ln ps):∃s:aj,lg ps n=s.data.toList/\s.size<=100002000:=⟨bA (lg ps n),by rw[fT],by show(lg ps n).length<=_;exact Gl n hz⟩
theorem Zz(v:Value)(ps:List jn)(w:World)(h:lH w v ps)(hz:ln ps) :
  aB 139 #[v] w fun e w'=>e=.returned (.int .i64 (mW ps))/\Fr aS w w':=by
 obtain⟨s,hs,yx⟩:=tR ps Ha hz;cases hb:qo ps Ha
 ·have HA:=O (show mW ps=5 by unfold mW;rw[hb];rfl);have hG:=O (vU v ps Ha w h hz ag s false hs hb);clear hb hs;go_enter func139,ntmps139;go_wp2_with fail
  refine hG.o.mono ?_;rintro e u⟨rfl,xZ⟩;go_wp2;go_ret;exact⟨by rw[HA.o];rfl,xZ⟩
 ·have hG:=O (vU v ps Ha w h hz ag s true hs hb);have HS:=O (fun u=>JW s u ab);cases hd:oC s.data.toList
  ·have HA:=O (show mW ps=5 by unfold mW;rw[hb,hs,hd];rfl);have HD:=O hd;clear hb hs hd;go_enter func139,ntmps139;go_wp2_with fail
   refine hG.o.mono ?_;rintro e u⟨rfl,xZ⟩;go_wp2_with fail
   refine(HS.o u).mono ?_;intro e u2 hp;obtain⟨rfl,dz⟩:=hp.no HD.o;go_wp2;go_ret;exact⟨by rw[HA.o];rfl,xZ.trans dz⟩
  ·have HA:=O (show mW ps=min (yR s.data.toList) 600 by unfold mW;rw[hb,hs,hd];rfl);have HD:=O hd;have hE:=O (fun u=>HS.o u);clear hb hs hd;go_enter func139,ntmps139;go_wp2_with fail
   refine hG.o.mono ?_;rintro e u⟨rfl,xZ⟩;go_wp2_with fail
   refine(HS.o u).mono ?_;intro e u2 hp;obtain⟨rfl,dz⟩:=hp.ok HD.o;go_wp2;go_ret;exact⟨by rw[HA.o];rfl,xZ.trans dz⟩
def Gm(ps:List jn)(n:Bs)(w:World)(e:Ending)(w':World):Prop :=
 Fr aS w w'/\match kS ps n with
 |some ws=>∃v,e=.returned (.tuple #[v,.nilIface])/\Strs w.heap.size w' v (dQ ws)
 |none=>e=.returned (.tuple #[.slice none 0 0,.iface 82 (.int .i64 3)])
theorem RB(v:Value)(ps:List jn)(n:Bs)(w:World)(h:lH w v ps)(hz:ln ps)(hn:n.length<1000) :
  aB 135 #[v,.string (bA n)] w (Gm ps n w):=by
 obtain⟨s,hs,yx⟩:=tR ps n hz;have hG:=O (vU v ps n w h hz hn s _ hs rfl);have HW:=O (show kS ps n=match gU s.data.toList with| .error _=>none| .ok l=>if 40<l.length then none else some l by unfold kS;rw[hs];cases gU s.data.toList<;>rfl);have HL:=O (fun u=>JP s u ab);clear hs;generalize qo ps n=b at hG;go_enter func135,ntmps135;go_wp2_with fail
 refine hG.o.mono ?_;rintro e u⟨rfl,xZ⟩;go_wp2_with fail
 refine(HL.o u).mono ?_;rintro e u2⟨v2,er,rfl,dz,hm⟩;have Vw:=O (xZ.trans dz);cases hl:gU s.data.toList with
 |error m =>
  rw[hl]at hm;obtain⟨rfl,g,rfl,hg⟩:=hm;have HN:=O (show kS ps n=none by rw[HW.o,hl]);clear hl;go_wp2;go_ret2;refine⟨Vw.o,?_⟩;rw[HN.o];exact rfl
 |ok ws =>
  rw[hl]at hm;by_cases GW:40<ws.length
  ·have HN:=O (show kS ps n=none by rw[HW.o,hl];show(if _ then _ else _)=_;rw[aA GW]);have G3:if 40<ws.length then v2=.slice none 0 0/\Fi u2 er (some (4,none))else Strs u.heap.size u2 v2 (dQ ws)/\er=.nilIface:=hm
   rw[aA GW]at G3;obtain⟨rfl,rfl⟩:=G3;clear hl hm;go_wp2;go_ret2;refine⟨Vw.o,?_⟩;rw[HN.o];exact rfl
  ·have HN:=O (show kS ps n=some ws by rw[HW.o,hl];show(if _ then _ else _)=_;rw[ar GW]);have G3:if 40<ws.length then v2=.slice none 0 0/\Fi u2 er (some (4,none))else Strs u.heap.size u2 v2 (dQ ws)/\er=.nilIface:=hm
   rw[ar GW]at G3;obtain⟨jq,rfl⟩:=G3;clear hl hm;have wT:=xZ.size;go_wp2;go_ret2;refine⟨Vw.o,?_⟩;rw[HN.o];exact⟨_,rfl,jq.up wT⟩
structure eD where
 bU:List (aP bE)
 waits:List (bI bE)
 book:List ef
 eB:List (gq×Int)
structure dN where
 part:Nat->eD
 now:Int
structure kl where
 what:Int
 part:Int
 cW:gq
 o:gq
 path:aj
 query:aj
 method:aj
 en:List gY
 fN:Bool
 body:aj
 proxy:Bool
 text:aj
 user:aj
 pass:aj
 bK:aj
 cert:Int
 all:Bool
 n:Int
structure kM where
 what:Int
 head:aj
 cert:Int
def kl.aJ(o:kl):qO:=⟨o.cW,o.o,o.path,o.query,o.method,o.en,o.fN⟩
def yi:eD:=⟨[],[],[],[]⟩
def AQ:dN:=⟨fun _=>yi,0⟩
def dN.set(w:dN)(k:Nat)(p:eD):dN:={w with part:=fun i=>if i=k then p else w.part i}
def rep(n:Int):kM:=⟨n,.empty,0⟩
def kl.Zj(o:kl)(g:aP bE):nL:=⟨decide (g.a.scheme=3),g.a.cA,g.a.aK,g.a.bq,g.a.eF,g.user,g.pass,jD o.method,nE o.path o.query,o.body,o.bK,g.count.toNat⟩
def qA(g:aP bE)(o:kl):Option aj :=
 if g.a.scheme=1 then
  (if 0<=Lib.indexByte g.user.data.toList 58 then none else if lr g.user&&lr g.pass then some (Dp g.user g.pass)else none)
 else if((g.a.scheme=2\/g.a.scheme=3)/\(g.a.eF.data.toList=[]\/g.a.eF.data.toList=lY\/g.a.eF.data.toList=pZ))/\(1<=g.count/\g.count<=4294967295)/\(zk g.a.scheme g.a.cy (o.Zj g)).fair=true then
  some (bA (zk g.a.scheme g.a.cy (o.Zj g)).text)
 else none
def uM(gs:List (aP bE))(o:gq)(proxy:Bool)(aK:aj):List (aP bE):=gs.filter (fun x=>!mS o proxy aK x)
def lG(p:eD)(o:kl):eD×kM :=
 match u0 p.bU o.o o.proxy o.path with
 |(gs,.error _)=>({p with bU:=gs},rep 2)
 |(gs,.ok g) =>
  match qA g o with
  |none=>({p with bU:=uM gs g.o g.proxy g.a.aK},rep 2)
  |some s=>({p with bU:=gs},⟨1,s,0⟩)
def Zk(gs:List (aP bE))(o:gq)(proxy:Bool)(aK:aj):Option (aP bE):=gs.find? (mS o proxy aK)
def DS(a:fI bE)(g:Option (aP bE)):Option (aP bE) :=
 match g with
 |some g=>if a.cN&&(a.scheme==g.a.scheme&&a.bq.toList !=g.a.bq.toList)then some {g with a:=a,count:=0}else none
 |none=>none
def jw(p:eD)(o:kl):eD×kM :=
 match mq o.text.data.toList with
 | .error _=>(p,rep 7)
 | .ok l =>
  if 0<(i_ l).scheme then
   match DS (i_ l) (Zk p.bU o.o o.proxy (i_ l).aK)with
   |some g=>({p with bU:=uZ p.bU g},rep 1)
   |none=>({p with bU:=uM p.bU o.o o.proxy (i_ l).aK,waits:=zC p.waits ⟨o.o,o.proxy,o.path,i_ l⟩},rep 3)
  else(p,rep 2)
def lh(p:eD)(o:kl):eD×kM :=
 match ma o.o o.proxy p.waits with
 |(ws,none)=>({p with waits:=ws},rep 2)
 |(ws,some x)=>({p with waits:=ws,bU:=uZ p.bU ⟨x.o,x.proxy,o.user,o.pass,x.a,0,nO x.a x.proxy x.path⟩},rep 1)
def lj(p:eD)(now:Int)(o:kl):eD×kM :=
 match mK o.text.data.toList with
 | .error _=>(p,rep 7)
 | .ok l =>
  match ug o.aJ (Fq o.cW.dS) l now with
  | .error _=>({p with book:=p.book.filter (fun q=>!q.uK o.aJ)},rep 2)
  | .ok m=>({p with book:=uf p.book m now},rep 1)
def KX(o:gq)(l:List (gq×Int)):List (gq×Int):=l.filter (fun c=>!c.1.kV o)
def xr(l:List (gq×Int))(o:gq)(n:Int):List (gq×Int) :=
 (KX o l++[(o,n)]).drop ((KX o l++[(o,n)]).length-8)
def oN(p:eD)(o:kl):eD×kM :=
 if o.cert<0 then(p,rep 7)else({p with eB:=xr p.eB o.o o.cert},rep 1)
def PS(p:eD)(o:kl):kM :=
 match p.eB.find? (fun c=>c.1.kV o.o)with
 |some c=>⟨1,.empty,c.2⟩
 |none=>rep 3
def vT(p:eD)(o:gq):eD:={p with bU:=p.bU.filter (fun g=>!XA o g),waits:=p.waits.filter (fun g=>!Nv o g)}
def NF(p:eD)(o:gq):eD:={vT p o with book:=p.book.filter (fun q=>!q.vS o),eB:=KX o p.eB}
def rK(p:eD)(o:kl):eD×kM :=
 if o.all&&o.what==9 then(yi,rep 1)
 else if o.what==9 then(NF p o.o,rep 1)else(vT p o.o,rep 1)
def wK(p:eD)(now:Int)(o:kl):eD×kM :=
 if o.what=1 then lG p o
 else if o.what=2 then jw p o
 else if o.what=3 then lh p o
 else if o.what=4 then(p,rep (if mA p.book o.aJ now then 5 else 4))
 else if o.what=5 then lj p now o
 else if o.what=6 then(p,PS p o)
 else if o.what=7 then oN p o
 else rK p o
def kl.Vf(o:kl):Bool:=decide (0<=o.part)&&(decide (o.part<4)&&(Ar o.method.data.toList&&(decide (o.en.length<=40)&&o.en.all fun p=>Ar p.1.data.toList)))
def kl.right(o:kl):Bool :=
 decide (1<=o.what)&&(decide (o.what<=10)&&(o.Vf&&(nN o.cW&&(nN o.o&&(decide (o.path.size<=200)&&(o.path.data.toList.head?==some 47&&decide (o.text.size<=3000)))))))
def mi(w:dN)(o:kl):dN×kM :=
 if o.right then
  if o.what=10 then
   if o.n<0\/1099511627776-w.now<o.n then(w,rep 7)else({w with now:=w.now+o.n},rep 1)
  else(w.set o.part.toNat (wK (w.part o.part.toNat) w.now o).1,(wK (w.part o.part.toNat) w.now o).2)
 else(w,rep 7)
def eO(o:kl):Nat×Bool :=
 if o.right then
  if o.what=1\/o.what=2\/o.what=3\/o.what=8 then(1,true)
  else if o.what=4 then(10,false)
  else if o.what=5 then(10,true)
  else if o.what=6 then(4,false)
  else if o.what=7 then(4,true)
  else if o.what=10 then(8,true)
  else(7,true)
 else(0,false)
def tQ(base:Nat)(w:World)(b:Nat)(v:Value)(ps:List ef)(f:ef->Bool)(e:Ending)(w':World):Prop :=
 e=.returned (.int .i64 ((ps.length:Int)-((ps.filter (fun p=>!f p)).length:Int)))/\DP base w b v (ps.filter (fun p=>!f p)) w'
theorem Gh{w1 w2:World}{ps ys:List ef}(h:eN base w1 b v ps)(dn:Fr aS w w1)(dz:Fr (own v) w1 w2)(Jj:own (.slice a ys.length c)=own v)(ho:OwnRows base 137 12 w2 (.slice a ys.length c) (ys.map ef.cells)) :
  eN base (w2.setCell ⟨b,0,none⟩ (.slice a ys.length c)) b (.slice a ys.length c) ys/\Fr (iu b v) w (w2.setCell ⟨b,0,none⟩ (.slice a ys.length c))/\(∀k,iu b (.slice a ys.length c) k->iu b v k\/w.heap.size<=k)/\w2.cell? ⟨b,0,none⟩=some v/\w2.frozen? ⟨b,0,none⟩=false:=by
 have KU:=dz.keep h.eJ h.nb;refine⟨oM h.low KU ho,?_,?_,by simp[World.cell?,KU],by simp[World.frozen?,KU]⟩
 ·exact(fU (S:=iu b v) (dn.mono (fun _ _ h=>absurd h id)) dz (fun _ _ h=>Or.inr h)).setCell (p:=⟨b,0,none⟩) (fun _=>Or.inl rfl) _
 ·rintro k(hk|hk)
  ·exact Or.inl (Or.inl hk)
  ·exact Or.inl (Or.inr (by rw[<-Jj];exact hk))
theorem Lg(base:Nat)(w:World)(b:Nat)(v:Value)(ps:List ef)(r:gl Value)(hs:List gY)(h:eN base w b v ps)(hlen:ps.length<1000000) :
  aB 88 #[.pointer (some ⟨b,0,none⟩),.agg r.cells.toArray] w (tQ base w b v ps (ef.uK (r.dS hs))):=by
 obtain⟨rc,ux⟩:∃rc,rc=r.cells.toArray:=⟨_,rfl⟩;have dn:Fr aS w (w.alloc (.cells rc 29)):=(ae _ _).alloc _;have lW:(w.alloc (.cells rc 29)).heap[w.heap.size]?=some (.cells rc 29 (0,0)):=aC _ _;have h1:=h.di dn;obtain⟨ak,ck,Th⟩:=h.form;subst Th;have Ra:¬own (.slice ak ps.length ck) w.heap.size:=fun hk=>by have:=h.DQ hk;omega
 have hd:=pO base 142 #[.pointer (some ⟨w.heap.size,0,none⟩)] (fun y=>(Ia y).uK (r.dS hs)) (.slice ak ps.length ck) (ps.map ef.cells) _ call142 (fun y hy u hu=>by
  obtain⟨q,_,rfl⟩:=bZ.1 hy;exact KV q r hs w.heap.size u (by rw[<-ux];exact hu.keep lW Ra)) h1.rows
 rw[qV ps (ef.uK (r.dS hs)),ai]at hd;obtain⟨ys,J_⟩:∃ys,ys=ps.filter (fun p=>!p.uK (r.dS hs)):=⟨_,rfl⟩;have hyl:ys.length<=ps.length:=by rw[J_];exact bT _ _
 unfold tQ;rw[<-J_]at hd ⊢;have HD:=O hd;have H1:=O h1;have lq:=O dn;have c0:=h1.c0;have e0:=h1.free 0;rw[<-ux];clear hd J_ h1 h dn lW ux Ra;go_enter func88,ntmps88;go_wp2_with fail
 refine HD.o.mono ?_;rintro e w2⟨a2,c2,rfl,qN,dz,Jj⟩;obtain⟨g1,g2,g3,d0,e2⟩:=Gh H1.o lq.o dz Jj qN;have d3:=g1.c0;have G:=O (And.intro g1 (And.intro g2 g3));clear g1 g2 g3 qN dz Jj HD H1 lq c0 e0;go_wp2;go_ret;exact⟨rfl,_,G.o.1,G.o.2.1,G.o.2.2⟩
theorem NK(base:Nat)(w:World)(b:Nat)(v:Value)(ps:List ef)(o:gq)(h:eN base w b v ps)(hlen:ps.length<1000000) :
  aB 93 #[.pointer (some ⟨b,0,none⟩),.agg o.cells.toArray] w (tQ base w b v ps (ef.vS o)):=by
 unfold gq.cells;have dn:Fr aS w (w.alloc (.cells #[.bool o.aE,.string o.host,.int .i64 o.port] 24)):=(ae _ _).alloc _;have lW:(w.alloc (.cells #[.bool o.aE,.string o.host,.int .i64 o.port] 24)).heap[w.heap.size]?=some (.cells #[.bool o.aE,.string o.host,.int .i64 o.port] 24 (0,0)):=aC _ _;have h1:=h.di dn;obtain⟨ak,ck,Th⟩:=h.form;subst Th
 have Ra:¬own (.slice ak ps.length ck) w.heap.size:=fun hk=>by have:=h.DQ hk;omega
 have hd:=pO base 152 #[.pointer (some ⟨w.heap.size,0,none⟩)] (fun y=>(Ia y).vS o) (.slice ak ps.length ck) (ps.map ef.cells) _ call152 (fun y hy u hu=>by
  obtain⟨q,_,rfl⟩:=bZ.1 hy;exact KW q o w.heap.size u (hu.keep lW Ra)) h1.rows
 rw[qV ps (ef.vS o),ai]at hd;obtain⟨ys,J_⟩:∃ys,ys=ps.filter (fun p=>!p.vS o):=⟨_,rfl⟩;have hyl:ys.length<=ps.length:=by rw[J_];exact bT _ _
 unfold tQ;rw[<-J_]at hd ⊢;have HD:=O hd;have H1:=O h1;have lq:=O dn;have c0:=h1.c0;have e0:=h1.free 0;clear hd J_ h1 h dn lW Ra;go_enter func93,ntmps93;go_wp2_with fail
 refine HD.o.mono ?_;rintro e w2⟨a2,c2,rfl,qN,dz,Jj⟩;obtain⟨g1,g2,g3,d0,e2⟩:=Gh H1.o lq.o dz Jj qN;have d3:=g1.c0;have G:=O (And.intro g1 (And.intro g2 g3));clear g1 g2 g3 qN dz Jj HD H1 lq c0 e0;go_wp2;go_ret;exact⟨rfl,_,G.o.1,G.o.2.1,G.o.2.2⟩
theorem Vy(a d g:Bool)(b e p q m h:aj)(c f t:Int):prog.built 137 [(0,.agg #[.bool a,.string b,.int .i64 c]),(1,.agg #[.bool d,.string e,.int .i64 f,.string p,.string q]),(2,.bool g),(3,.string m),(4,.string h),(5,.int .i64 t)]=some #[.bool a,.string b,.int .i64 c,.bool d,.string e,.int .i64 f,.string p,.string q,.bool g,.string m,.string h,.int .i64 t]:=af
theorem NQ:(prog.info? 137).map (fun i=>(i.zero,i.size,i.bytes))=some (some (.agg EX),12,144):=af
theorem OwnRows.Vz{e:TypeId}{xs:cY}(h:OwnRows b e k w v xs)(hg:own v g):∃c,w.heap[g]?=some (.cells c e (0,0)):=by
 obtain⟨cap,cur,_,_,h2,_⟩:=h.open hg;exact⟨cur,h2⟩
theorem VA(p:ef):∀u∈p.cells,u.oneCell'=true:=by unfold ef.cells;simp[Value.oneCell']
theorem Lj(acc:List ef)(X:ef):acc.any (fun q=>q.kV X)=acc.any (fun q=>X.kV q):=by
 congr 1;funext q
 rw[fb,ef.wC,ef.wC];exact eq_comm
theorem Ij{P:Program}{ops:Array Oper}{S:World->Prop}{o:Oper}{a:Act}(hg:o.guard=none)(t:TypeId)(parts:Array (Nat×Operand))(ho:o.op=.build t parts)(cells:bS)
  (hf:P.built t (parts.map fun(i,x)=>(i,a.eval x)).toList=some cells):YieldsIf P ops S o (.agg cells) a :=
 Or.inl ⟨by simp[Region.wanted,hg],fun w _=>by
  unfold execOp;simp only[ho,Sem.run_bind,run_build w t _ cells hf,Result.andThen_ok];rfl⟩
theorem uO{ops:Array Oper}{S:World->Prop}{o:Oper}{a:Act}(hg:o.guard=none)(x0 x1 x2 x3 x4 x5:Operand)
  (ho:o.op=.build 137 #[(0,x0),(1,x1),(2,x2),(3,x3),(4,x4),(5,x5)])(b1 b2 b3:Bool)(s1 s2 s3 s4 s5 s6:aj)(i1 i2 i3:Int)
  (h0:a.eval x0=.agg #[.bool b1,.string s1,.int .i64 i1])(h1:a.eval x1=.agg #[.bool b2,.string s2,.int .i64 i2,.string s3,.string s4])(h2:a.eval x2=.bool b3)(h3:a.eval x3=.string s5)(h4:a.eval x4=.string s6)(h5:a.eval x5=.int .i64 i3) :
  YieldsIf prog ops S o (.agg #[.bool b1,.string s1,.int .i64 i1,.bool b2,.string s2,.int .i64 i2,.string s3,.string s4,.bool b3,.string s5,.string s6,.int .i64 i3]) a:=by
 refine Ij hg 137 _ ho _ ?_;simp only[eC,cD,dp,h0,h1,h2,h3,h4,h5];exact Vy _ _ _ _ _ _ _ _ _ _ _ _
theorem D1{P:Program}{ops:Array Oper}{a:Act}{w:World}{K:Act->World->Prop}{Q:Exit->Act->World->Prop}{E:Prop}{o:Oper}(yE:o.guard=none)(ty:TypeId)(x y:Operand)(ho:o.op=.store ty x y)
  (g:Nat)(cells:bS)(hx:a.eval x=.pointer (some ⟨g,0,none⟩))(hy:a.eval y=.agg cells)
  (t:TypeId)(old:bS)(hg:w.heap[g]?=some (.cells old t (0,0)))(hi:(P.info? ty).map (·.size)=some cells.size)
  (hold:old.size=cells.size)(h1:cells.all (·.oneCell')=true)
  (h:K (a.put o.dst undef) (w.setRow g cells)):if Region.wanted o (yielded ops a.tmps)=true then Oper.wp P o a w K Q else E:=by
 have hw:Region.wanted o (yielded ops a.tmps)=true:=by simp[Region.wanted,yE]
 rw[aA hw];exact wp_store_row ty x y ho g cells hx hy t old hg hi hold h1 h
theorem jc{S:dB}{a:World}(h:Fr S a w)(hg:a.heap.size<=g)(cs:bS):Fr S a (w.setRow g cs) :=
 ⟨h.os,h.tape,h.output,by show a.heap.size<=(w.setRow g cs).heap.size;rw[World.setRow];simp only[Array.size_modify];exact h.size,fun k hk hn=>(show(w.setRow g cs).heap[k]?=w.heap[k]? by simp[World.setRow,Array.getElem?_modify,show g≠k from ab]).trans (h.block k hk hn)⟩
theorem lS{old cs:bS}{t:TypeId}(h:w.heap[g]?=some (.cells old t (0,0))):(w.setRow g cs).heap[g]?=some (.cells cs t (0,0)):=by
 simp[World.setRow,Array.getElem?_modify,h]
theorem ZA(base:Nat)(m hd:aj)(r:gl Value)(hs:List gY)(now:Int)(lv:Value)(ps:List jn)(acc:List ef)(v:Value)(br bn bl bp:Nat)(w:World)
  (hr:w.heap[br]?=some (.cells r.cells.toArray 29 (0,0)))(hn:w.heap[bn]?=some (.cells #[.int .i64 now] 3 (0,0)))(hl:w.heap[bl]?=some (.cells #[lv] 27 (0,0)))(hp:w.heap[bp]?=some (.cells #[v] 119 (0,0)))
  (MY:lH w lv ps)(hz:ln ps)(cQ:OwnRows base 137 12 w v (acc.map ef.cells))(hb:base<=bp)(hlen:acc.length<1000000)(n0:0<=now)(n1:now<=1099511627776) :
  aB 138 #[.string m,.string hd,.pointer (some ⟨br,0,none⟩),.pointer (some ⟨bn,0,none⟩),.pointer (some ⟨bl,0,none⟩),.pointer (some ⟨bp,0,none⟩)] w fun e w'=>e=.returned (.tuple #[])/\∃v',w'.heap[bp]?=some (.cells #[v'] 119 (0,0))/\OwnRows base 137 12 w' v' ((p9 acc ((r.dS hs).CU (now+mW ps) m hd)).map ef.cells)/\Fr (fun k=>k=bp\/own v k) w w':=by
 have hag:=MT ps;have ais:=O (show∀U,Fr aS w U->aB 139 #[lv] U fun e w'=>e=.returned (.int .i64 (mW ps))/\Fr aS U w' from fun U hU=>Zz lv ps U (bh MY hU) hz);obtain⟨al,cl,hlv⟩:=dI MY;rw[ai]at hlv;subst hlv
 have HC:=O (show∀U,Fr aS w U->(U.cell? ⟨br,1,none⟩=some (.bool r.cW.aE)/\U.cell? ⟨br,2,none⟩=some (.string r.cW.host)/\U.cell? ⟨br,3,none⟩=some (.int .i64 r.cW.port)/\U.cell? ⟨br,4,none⟩=some (.bool r.o.aE)/\U.cell? ⟨br,5,none⟩=some (.string r.o.host)/\U.cell? ⟨br,6,none⟩=some (.int .i64 r.o.port)/\U.cell? ⟨br,7,none⟩=some (.string r.path)/\U.cell? ⟨br,8,none⟩=some (.string r.query)/\U.cell? ⟨br,11,none⟩=some (.bool r.fN)/\U.cell? ⟨bn,0,none⟩=some (.int .i64 now)/\U.cell? ⟨bl,0,none⟩=some (.slice al ps.length cl))from fun U hU=>by
  have j:=hU.keep hr id;have hc:∀i u,r.cells[i]?=some u->U.cell? ⟨br,i,none⟩=some u:=fun i u hu=>by simp only[World.cell?,j];simpa using hu
  exact⟨hc 1 _ rfl,hc 2 _ rfl,hc 3 _ rfl,hc 4 _ rfl,hc 5 _ rfl,hc 6 _ rfl,hc 7 _ rfl,hc 8 _ rfl,hc 11 _ rfl,by simp[World.cell?,hU.keep hn id],by simp[World.cell?,hU.keep hl id]⟩)
 obtain⟨X,hX⟩:∃X,X=(r.dS hs).CU (now+mW ps) m hd:=⟨_,rfl⟩;obtain⟨x,hx⟩:∃x,x=X.cells:=⟨_,rfl⟩;have lp:x.length=12:=by rw[hx];rfl
 have wU:=O (show∀u∈x,u.oneCell'=true from by rw[hx];exact VA X);have FW:=vD x #[.bool false,.string ⟨#[]⟩,.int .i64 0,.bool false,.string ⟨#[]⟩,.int .i64 0,.string ⟨#[]⟩,.string ⟨#[]⟩,.bool false,.string ⟨#[]⟩,.string ⟨#[]⟩,.int .i64 0] (by rw[lp];rfl);have HX:=O hx
 have HXC:=O (show x.toArray= #[.bool r.cW.aE,.string r.cW.host,.int .i64 r.cW.port,.bool r.o.aE,.string r.o.host,.int .i64 r.o.port,.string r.path,.string r.query,.bool r.fN,.string m,.string hd,.int .i64 (now+mW ps)]by rw[hx,hX];rfl);rw[<-hX];clear hX hx;have ark:IntKind.i64.wrap (now+mW ps)=now+mW ps:=by rw[IntWalk.i64_left];exact IntWalk.wrap64_in _ ab
 clear hr hn hl MY hz;go_enter func138,ntmps138;go_wp2_with fail
 refine wp_region_held_drew (S:=(fun U=>U.cell? ⟨br,1,none⟩=some (.bool r.cW.aE)/\U.cell? ⟨br,2,none⟩=some (.string r.cW.host)/\U.cell? ⟨br,3,none⟩=some (.int .i64 r.cW.port)/\U.cell? ⟨br,4,none⟩=some (.bool r.o.aE)/\U.cell? ⟨br,5,none⟩=some (.string r.o.host)/\U.cell? ⟨br,6,none⟩=some (.int .i64 r.o.port)/\U.cell? ⟨br,7,none⟩=some (.string r.path)/\U.cell? ⟨br,8,none⟩=some (.string r.query)/\U.cell? ⟨br,11,none⟩=some (.bool r.fN)/\U.cell? ⟨bn,0,none⟩=some (.int .i64 now)/\U.cell? ⟨bl,0,none⟩=some (.slice al ps.length cl))) af (HC.o _ (ae aS w).drew) ?_
 intro Aj;refine aW 0 9 rfl ?_;refine aW 1 10 rfl ?_;refine aW 2 11 rfl ?_;refine aW 3 12 rfl ?_;refine aW 4 13 rfl ?_;refine aW 5 14 rfl ?_;refine aW 6 15 rfl ?_;refine aW 7 16 rfl ?_;refine aW 8 17 rfl ?_;refine aW 9 18 rfl ?_;refine wpAnyH_ready (rs:=[10,13]) af aR ?_;refine AllReadyH.cons rfl (fun K hK=>?hA) (AllReadyH.cons rfl (fun K hK=>?hB) AllReadyH.nil)
 case' hA =>
  go_simp;refine(ais.o _ (ae aS w).drew).mono ?_;rintro e u⟨rfl,hu⟩;have HU:=O (show Fr aS w u from((ae aS w).drew).trans hu);refine hK.out _ _ (HC.o _ HU.o) ?_;intro yl;clear hK Aj hu K
  try simp only[Act.put,sA,sB,sC]
  refine aW 11 20 rfl ?_
  refine wpAnyH_take (i:=12) (oi:=⟨some 21,_,_,_,_,_⟩) (v:=.agg #[.bool r.cW.aE,.string r.cW.host,.int .i64 r.cW.port,.bool r.o.aE,.string r.o.host,.int .i64 r.o.port,.string r.path,.string r.query,.bool r.fN,.string m,.string hd,.int .i64 (now+mW ps)]) rfl af af af (fun _ _ _ h=>h) (uO rfl (.tmp 10) (.tmp 12) (.tmp 14) (.tmp 15) (.tmp 16) (.tmp 20) rfl r.cW.aE r.o.aE r.fN r.cW.host r.o.host r.path r.query m hd r.cW.port r.o.port (now+mW ps) rfl rfl rfl rfl rfl rfl) jS ?_
  try simp only[Act.put,sA,sB,sC]
  refine eT 13 rfl fun K hK=>?_;go_simp;obtain⟨bx,Ik⟩:∃bx,bx=u.heap.size:=⟨_,rfl⟩;obtain⟨w3,Up⟩:∃w3,w3=u.alloc (.cells EX 137):=⟨_,rfl⟩;have HZB:=O (show w3.heap[bx]?=some (.cells EX 137 (0,0))from by rw[Up,Ik];exact aC _ _);have ZB:=O (show Fr aS w w3 from by rw[Up];exact HU.o.alloc _);have p_:w.heap.size<=bx:=by rw[Ik];exact HU.o.size
  rw[<-Up, <-Ik];refine hK.out _ _ (HC.o _ ZB.o) ?_;intro BJ;clear hK yl K Up Ik
 case' hB =>
  go_simp;obtain⟨bx,Ik⟩:∃bx,bx=w.heap.size:=⟨_,rfl⟩;obtain⟨w2,ZC⟩:∃w2,w2=(w.alloc (.cells EX 137)).drew:=⟨_,rfl⟩;have ld:w2.heap[bx]?=some (.cells EX 137 (0,0)):=by rw[ZC,Ik];exact aC _ _
  have ZD:Fr aS w w2:=by rw[ZC];exact((ae _ _).alloc _).drew
  have p_:w.heap.size<=bx:=by rw[Ik];exact ay _
  rw[<-ZC, <-Ik];refine hK.out _ _ (HC.o _ ZD) ?_;intro yl;clear hK Aj K ZC Ik
  try simp only[Act.put,sA,sB,sC]
  refine eT 10 rfl fun K hK=>?_;go_simp;refine(ais.o _ ZD).mono ?_;rintro e w3⟨rfl,hu⟩;have HZB:=O (hu.keep ld id);have ZB:=O (ZD.trans hu);refine hK.out _ _ (HC.o _ ZB.o) ?_;intro BJ;clear hK yl hu K ld ZD
  try simp only[Act.put,sA,sB,sC]
  refine aW 11 20 rfl ?_
  refine wpAnyH_take (i:=12) (oi:=⟨some 21,_,_,_,_,_⟩) (v:=.agg #[.bool r.cW.aE,.string r.cW.host,.int .i64 r.cW.port,.bool r.o.aE,.string r.o.host,.int .i64 r.o.port,.string r.path,.string r.query,.bool r.fN,.string m,.string hd,.int .i64 (now+mW ps)]) rfl af af af (fun _ _ _ h=>h) (uO rfl (.tmp 10) (.tmp 12) (.tmp 14) (.tmp 15) (.tmp 16) (.tmp 20) rfl r.cW.aE r.o.aE r.fN r.cW.host r.o.host r.path r.query m hd r.cW.port r.o.port (now+mW ps) rfl rfl rfl rfl rfl rfl) jS ?_
 all_goals
  try simp only[Act.put,sA,sB,sC]
  refine eT 14 rfl fun K hK=>?_;refine D1 rfl 137 (.tmp 8) (.tmp 21) rfl bx #[.bool r.cW.aE,.string r.cW.host,.int .i64 r.cW.port,.bool r.o.aE,.string r.o.host,.int .i64 r.o.port,.string r.path,.string r.query,.bool r.fN,.string m,.string hd,.int .i64 (now+mW ps)] rfl rfl 137 EX HZB.o af rfl ct ?_
  obtain⟨W,hW⟩:∃W,W=w3.setRow bx #[.bool r.cW.aE,.string r.cW.host,.int .i64 r.cW.port,.bool r.o.aE,.string r.o.host,.int .i64 r.o.port,.string r.path,.string r.query,.bool r.fN,.string m,.string hd,.int .i64 (now+mW ps)]:=⟨_,rfl⟩;have BK:Fr aS w W:=by rw[hW];exact jc ZB.o p_ _
  have ZE:W.heap[bx]?=some (.cells x.toArray 137 (0,0)):=by rw[hW,HXC.o];exact lS HZB.o
  rw[<-hW];refine hK.out _ _ (HC.o _ BK) ?_;intro AX;clear hK AX K hW HZB ZB
  try simp only[Act.put,List.setIfInBounds_toArray]
  refine wpAnyH_done af ?_ _;have HWF:=O BK;have Tf:=O ZE;obtain⟨ZF,ZG,hvv⟩:=cQ.form;rw[ai]at hvv;subst hvv;have HCT:=O (show aB 140 #[.slice ZF acc.length ZG,.agg x.toArray] W fun e w'=>e=.returned (.bool (acc.any (fun q=>X.kV q)))/\Fr aS W w' from by rw[HX.o];exact Li _ acc X W (bh cQ.at BK))
  have HBP:=O (show∀U,Fr (own (.slice ZF acc.length ZG)) w U->U.heap[bp]?=some (.cells #[.slice ZF acc.length ZG] 119 (0,0))from fun U hU=>hU.keep hp (fun hk=>by
   obtain⟨cc,e⟩:=cQ.Vz hk;rw[hp]at e;cases e))
  have RD:=O (fun U (hU:Fr aS w U)=>cQ.fr hU (fun _ _ h=>h));have d5:W.cell? ⟨bp,0,none⟩=some (.slice ZF acc.length ZG):=by simp[World.cell?,HBP.o W (BK.mono (fun _ _ h=>absurd h id))]
  have hxs:(prog.info? 137).map (·.size)=some x.toArray.size:=by rw[aZ];exact AO lp
  have HXS:=O hxs;have oq:base<=W.heap.size:=by have h1:=BK.size;have h2:=bj hp;omega
  clear hp cQ BK ZE hxs;go_wp2_with (first|((with_reducible refine dk 23 ?_);refine aI rfl 137 (.tmp 8) rfl bx rfl _ x.toArray (0,0) _ Tf.o underlying137 rfl HXS.o ?_)|fail)
  refine HCT.o.mono ?_;rintro e u2⟨rfl,nj⟩;have tu:=O (HWF.o.trans nj);have PZ:=O (nj.keep Tf.o id);have HO2:=O (RD.o u2 tu.o);have ko:=HBP.o u2 (tu.o.mono (fun _ _ h=>absurd h id));have d6:u2.cell? ⟨bp,0,none⟩=some (.slice ZF acc.length ZG):=by simp[World.cell?,ko]
  have eA:base<=u2.heap.size:=by have:=nj.size;omega
  clear nj d5 HCT;cases ja:acc.any (fun q=>X.kV q)
  ·have NR:=O (show p9 acc X=acc++[X]by
    unfold p9;rw[ar];rw[Lj,ja];decide)
   clear ja
   go_wp2_with (first|((with_reducible refine dk 27 ?_);refine aI rfl 137 (.tmp 8) rfl bx rfl _ x.toArray (0,0) _ PZ.o underlying137 rfl HXS.o ?_)|(at_builtin;refine nJ rfl _ _ 119 137 rfl 12 144 (.agg EX) underlying119 NQ rfl ag ag base (.slice ZF acc.length ZG) (acc.map ef.cells) rfl (HO2.o.alloc _) u2.heap.size 1 x rfl lp wU.o (fun i u hi=>by rw[World.cell?_alloc_mark];simpa using hi) (by rw[ai];omega) bH ?_;intro v' w4 eZ BU;obtain⟨a4,c4,O5⟩:=eZ.form;subst O5;have jO:Fr (own (.slice ZF acc.length ZG)) u2 w4:=fl ((ae _ u2).alloc (.cells x.toArray 137)) BU (fun k hk _=>hk);have tK:=HBP.o w4 ((tu.o.mono (fun _ _ h=>absurd h id)).step jO (fun _ _ h=>h));have k4:w4.cell? ⟨bp,0,none⟩=some (.slice ZF acc.length ZG):=(by simp[World.cell?,tK]);have e4:w4.frozen? ⟨bp,0,none⟩=false:=(by simp[World.frozen?,tK]))|fail)
   clear FW;go_end0;refine⟨rfl,_,b_ tK 0 _,?_,?_⟩
   ·rw[NR.o,bG,cD,dp, <-HX.o];have KJ:OwnRows base 137 12 w4 (.slice a4 (acc.length+1) c4) (acc.map ef.cells++[x]):=by
     have h:=eZ;rw[aN,ai,List.length_singleton]at h;exact h
    have kx:Fr (one bp) w4 (w4.setCell ⟨bp,0,none⟩ (.slice a4 (acc.length+1) c4)):=(ae (one bp) w4).setCell (p:=⟨bp,0,none⟩) (fun _=>rfl) _;refine KJ.fr kx ?_;intro k hk e;obtain⟨cc,ek⟩:=KJ.Vz hk;have e:k=bp:=e;rw[e,tK]at ek;cases ek
   ·exact(fU (S:=fun k=>k=bp\/own (.slice ZF acc.length ZG) k) (tu.o.mono (fun _ _ h=>absurd h id)) jO (fun _ _ h=>Or.inr h)).setCell (p:=⟨bp,0,none⟩) (fun _=>Or.inl rfl) _
  ·have NR:=O (show p9 acc X=acc by
    unfold p9;rw[aA];rw[Lj,ja])
   clear ja;go_wp2;go_end0;exact⟨rfl,_,ko,by rw[NR.o];exact HO2.o,tu.o.mono (fun _ _ h=>absurd h id)⟩
theorem V3{α:Type}{p:α->Bool}{l:List α}{x:α}(h:l[k]?=some x)(hp:p x=true)(hn:(l.take k).any p=false):l.find? p=some x:=by
 induction l generalizing k with
 |nil=>simp at h
 |cons a l ih =>
  cases k with
  |zero=>simp at h;subst h;rw[List.find?_cons_of_pos hp]
  |succ k =>
   simp only[List.getElem?_cons_succ]at h;simp only[List.take_succ_cons,List.any_cons,eK]at hn;rw[List.find?_cons_of_neg (by rw[hn.1];exact gI)];exact ih h hn.2
theorem RU{α:Type}{p:α->Bool}{l:List α}(hn:l.any p=false):l.find? p=none:=by
 rw[List.find?_eq_none];intro x hx;have:=(eX.1 hn) x hx;exact this
def ai5(w:World)(gs:List (aP bE))(o:gq)(proxy:Bool)(aK:aj)(i:Value)(wr:World):Prop :=
 ∃k:Nat,k<=gs.length/\i=.int .i64 k/\(gs.take k).any (mS o proxy aK)=false/\Fr aS w wr
theorem V4(base:Nat)(w:World)(b:Nat)(gv wv:Value)(gs:List (aP bE))(ws:List (bI bE))(o:gq)(proxy:Bool)(aK:aj)(h:dD base w b gv wv gs ws) :
  aB 78 #[.pointer (some ⟨b,0,none⟩),.agg o.cells.toArray,.bool proxy,.string aK] w (tM base w (gs.find? (mS o proxy aK))):=by
 have HSA:=O (fun r U=>KD r o proxy aK U);unfold gq.cells at *
 have tV:=h.lt;have k_:=h.low;have oW:Fr aS w _:=((ae aS w).alloc (.cells #[.bool o.aE,.string o.host,.int .i64 o.port] 24)).alloc (.cells eS 133);have b1:=aC (w.alloc (.cells #[.bool o.aE,.string o.host,.int .i64 o.port] 24)) (.cells eS 133);rw[show(w.alloc (.cells #[.bool o.aE,.string o.host,.int .i64 o.port] 24)).heap.size=w.heap.size+1 from aR]at b1
 have b0:((w.alloc (.cells #[.bool o.aE,.string o.host,.int .i64 o.port] 24)).alloc (.cells eS 133)).heap[w.heap.size]?=some (.cells #[.bool o.aE,.string o.host,.int .i64 o.port] 24 (0,0)):=by
  rw[Below.heap_alloc _ _ _ aR];exact aC w _
 have h1:=h.di oW;have d0:=h1.c0;obtain⟨av,cv,hgv⟩:=h1.bU.form;subst hgv;have B0:=O b0;have B1:=O b1;clear b0 b1 h;go_enter func78,ntmps78;go_wp2_with fail
 clear d0;generalize (w.alloc (.cells _ 24)).alloc _=W at *
 go_loopw[17] (ai5 W gs o proxy aK) (fun i _=>gs.length-(intOf i).toNat)
 case atStart=>exact⟨0,aQ _,rfl,rfl,ae _ _⟩
 case round =>
  obtain⟨k,hk,rfl,ja,cL⟩:=hrel;have HAN:=O ja;clear ja;have h2:=h1.di cL;have c0:=O (cL.keep B0.o id);have c1:=O (cL.keep B1.o id);have yf:w.heap.size+1<wr.heap.size:=bj c1.o;by_cases fk:k<gs.length
  ·have o_:(k:Int)<(gs.length:Int):=ab;obtain⟨bk,c,dz,sG,r,dX,hr,hcell⟩:=h2.bU.at fk;cases dz;unfold maxLen at sG;have dP:=O (List.getElem?_eq_getElem fk);generalize gs[k]=g at dP hr;have hsg:KC o proxy aK r.cells=mS o proxy aK g:=BD hr o proxy aK;obtain⟨x,hx⟩:∃x,x=r.cells:=⟨_,rfl⟩;have lp:x.length=16:=by rw[hx];rfl
   rw[<-hx]at hcell dX;have jq:=fun W=>run_storeCells_new (P:=prog) W 133 #[.bool false,.string ⟨#[]⟩,.int .i64 0,.bool false,.string ⟨#[]⟩,.string ⟨#[]⟩,.int .i64 0,.string ⟨#[]⟩,.string ⟨#[]⟩,.string ⟨#[]⟩,.bool false,.string ⟨#[]⟩,.bool false,.slice none 0 0,.int .i64 0,.slice none 0 0] x (by rw[lp];rfl) dX;have Dx:=O (show(prog.info? 133).map (·.size)=some x.length by rw[lp];kernel_rfl)
   have gO:Fr aS wr (wr.alloc (.cells x.toArray 133)):=(ae aS wr).alloc _;have tG:=O (aC wr (.cells x.toArray 133));have HSM:=O (show∀U,aB 116 #[.agg x.toArray,.agg #[.bool o.aE,.string o.host,.int .i64 o.port],.bool proxy,.string aK] U fun e w'=>e=.returned (.bool (mS o proxy aK g))/\Fr aS U w' from fun U=>by
    have:=HSA.o r U;rw[hx];refine this.mono ?_;rintro e w' h';rw[<-hsg];exact h')
   have HR:=O (hr.mono (fun _ _ h=>h.di gO));have rT:=O (cL.trans gO);have Mo:wr.heap.size<(wr.alloc (.cells x.toArray 133)).heap.size:=aR;have HX:=O hx;have c0a:=O (gO.keep c0.o id);have c1a:=O (gO.keep c1.o id);clear hx dX hr hsg gO
   go_wp2_with (first|((with_reducible refine dk 20 ?_);refine a_ rfl 133 (.tmp 19) rfl bk (k*16) rfl x _ hcell underlying133 rfl Dx.o ?_)|((with_reducible refine dk 21 ?_);refine aI rfl 133 (.tmp 11) rfl wr.heap.size rfl _ x.toArray (0,0) _ tG.o underlying133 rfl (by rw[aZ];exact Dx.o) ?_)|((with_reducible refine dk 22 ?_);refine aI rfl 24 (.tmp 5) rfl w.heap.size rfl _ _ (0,0) _ c0a.o underlying24 rfl af ?_)|fail)
   clear jq hcell;generalize wr.alloc (.cells x.toArray 133)=V at *
   refine(HSM.o V).mono ?_;rintro e u1⟨rfl,dn⟩;cases oZ:mS o proxy aK g
   ·have HN:=O (any_take_succ dP.o HAN.o oZ);clear oZ HSM;go_wp2;go_roundw
    case rel=>exact⟨k+1,ab,bg,HN.o,rT.o.trans dn⟩
    case measure=>simp[intOf];omega
   ·have uR:=O (V3 dP.o oZ HAN.o);have aoN:=O (dn.keep tG.o id);have hub:base<=u1.heap.size:=by have:=dn.size;have:=h1.lt;have:=cL.size;omega
    have fB:=O (ur base r g u1 hub (HR.o.mono (fun _ _ h=>h.di dn)));rw[<-HX.o]at fB;have c1b:=O (dn.keep c1a.o id);have lq:=O (oW.trans (rT.o.trans dn));clear oZ HSM;go_wp2_with (first|((with_reducible refine dk 26 ?_);refine aI rfl 133 (.tmp 11) rfl wr.heap.size rfl _ x.toArray (0,0) _ aoN.o underlying133 rfl (by rw[aZ];exact Dx.o) ?_)|fail)
    refine fB.o.mono ?_;intro e w3 Np;obtain⟨r3,rfl,rq,qE,il⟩:=Np;have b3:=O (il.keep c1b.o id);have yC:(prog.info? 133).map (·.size)=some r3.cells.toArray.size:=af;have iq:=lq.o.trans il;obtain⟨y,hy⟩:∃y,y=r3.cells:=⟨_,rfl⟩;have HY:=O hy;rw[<-hy]at yC qE ⊢;have Ex:=O (bW qE);have CP:=O (show eS.size=y.toArray.size by rw[hy];rfl);clear hy fB
    go_wp2_with (first|((with_reducible refine cV 133 ?_);refine aG rfl 133 (.tmp 8) (.tmp 27) rfl (w.heap.size+1) y.toArray rfl rfl _ eS b3.o yC CP.o Ex.o ?_)|fail)
    have rG:rR base w3 (one (w.heap.size+1)):=by
     rintro j rfl hj;exact⟨ab,fun c f e=>by rw[b3.o]at e;cases e⟩
    have kx:Fr (one (w.heap.size+1)) w3 (w3.setRow (w.heap.size+1) y.toArray):=(ae (one (w.heap.size+1)) w3).setRow (fun _=>rfl) _;refine aU (results_cell_tmp bC _ _ (w.heap.size+1) 133 y.toArray (0,0) _ rfl (aY w3 (w.heap.size+1) _ _ _ _ b3.o) underlying133 rfl yC) rfl ?_;have DK:∀u∈r3.cells,u.oneCell'=true:=by rw[<-HY.o];exact qE
    rw[HY.o]at *
    refine⟨iq.setRow (fun h=>absurd h ab) _,?_⟩;rw[uR.o];exact⟨r3,rfl,rq.mono (fun _ _ h=>h.fr kx rG),DK⟩
  ·have o_:¬(k:Int)<(gs.length:Int):=ab;have uR:=O (RU (p:=mS o proxy aK) (l:=gs) (by have h:=HAN.o;rwa [aD ab]at h));have HF:=O (oW.trans cL);go_wp2_with (first|((with_reducible refine cV 133 ?_);refine aG rfl 133 (.tmp 8) (.tmp 29) rfl (w.heap.size+1) eS rfl rfl _ eS c1.o af rfl ya ?_)|fail)
   refine aU (results_cell_tmp bC _ _ (w.heap.size+1) 133 eS (0,0) _ rfl (aY wr (w.heap.size+1) _ _ _ _ c1.o) underlying133 rfl af) rfl ?_;refine⟨HF.o.setRow (fun h=>absurd h ab) _,?_⟩;rw[uR.o];rfl
theorem Iu(base:Nat)(w:World)(b:Nat)(v:Value)(ps:List ef)(h:eN base w b v ps)(hlen:ps.length<1000000) :
  aB 40 #[.pointer (some ⟨b,0,none⟩)] w fun e w'=>∃b' v',e=.returned (.pointer (some ⟨b',0,none⟩))/\eN w.heap.size w' b' v' ps/\Fr aS w w':=by
 have HL:=O (zF base w b v ps h hlen);clear h;go_enter func40,ntmps40;go_wp2_with fail
 refine HL.o.mono ?_;rintro e u⟨v',rfl,ho,hf⟩;have gO:Fr aS u (u.alloc (.cells #[v'] 121)):=(ae aS u).alloc _;have HR:=O (show eN w.heap.size (u.alloc (.cells #[v'] 121)) u.heap.size v' ps from⟨hf.size,aC _ _,ho.fr gO (fun _ _ h=>h)⟩);have HF:=O (hf.trans gO);obtain⟨a',c',rW⟩:=ho.form;rw[ai]at rW;subst rW;clear ho HL hf gO;go_wp2;go_ret;exact⟨_,_,rfl,HR.o,HF.o⟩
