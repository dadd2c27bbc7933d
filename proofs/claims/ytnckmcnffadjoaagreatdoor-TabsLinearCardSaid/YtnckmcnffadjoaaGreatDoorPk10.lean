/- Lemmas for the law's walk. -/
import Derived.Test.YtnckmcnffadjoaaGreatDoorPk9
set_option maxRecDepth 100000
set_option maxHeartbeats 16000000
set_option linter.unusedSimpArgs false
namespace Go.Proofs.YtnckmcnffadjoaaGreatDoor
open Go.Proofs.Tryz
open Go.RowKit
variable {D:Type} {k B b:Nat} {l:aH} {w w':World}
def vU(gs:List (aQ bE))(g:aQ bE):List (aQ bE) :=
 let l:=gs.filter (fun x=>!np g.o g.proxy g.a.aM x)++[g]
 l.drop (l.length-8)
def Jb(base:Nat)(w:World)(b:Nat)(gv wv:Value)(gs:List (aQ bE))(ws:List (bK bE))(e:Ending)(w':World):Prop :=
 e=.returned (.tuple #[])/\kM base w b gv wv gs ws w'
theorem GY{base:Nat}{w2 w3 w4:World}{b:Nat}{gv wv:Value}{fs:List (aQ bE)}{ws:List (bK bE)}{m:aQ bE}{r3:aQ Value}{rs:List (aQ Value)}{gg cap:Nat}(h2:dH base w2 b gv wv fs ws)
  (ho:OwnRows base 114 16 w2 gv (rs.map aQ.cells))(kJ:lq (aQ.Reads (dx base w2)) rs fs)(iz:Fr aS w2 w3)(rP:aQ.Reads (dx base w3) r3 m)(qZ:∀u∈r3.cells,u.oneCell'=true)(kS:Fr (own gv) w3 w4)
  (fg:w4.ownsRow base 114 16 (.slice (some ⟨gg,0,none⟩) (fs.length+1) cap) (fs.length+1) ((rs.map aQ.cells).flatten++r3.cells))(dS:gv.ownBlock=some gg\/w2.heap.size<=gg) :
  dH base (w4.setCell ⟨b,0,none⟩ (.slice (some ⟨gg,0,none⟩) (fs.length+1) cap)) b (.slice (some ⟨gg,0,none⟩) (fs.length+1) cap) wv (fs++[m]) ws /\
  Fr (dy b gv wv) w2 (w4.setCell ⟨b,0,none⟩ (.slice (some ⟨gg,0,none⟩) (fs.length+1) cap))/\∀k,dy b (.slice (some ⟨gg,0,none⟩) (fs.length+1) cap) wv k->dy b gv wv k\/w2.heap.size<=k:=by
 have lD:=h2.low;have vN:=kJ.len;have yz:=ho.fr iz (fun _ _ h=>h);have Em:sG base w3 (own gv):=yz.off (ay _) ag;have vQ:lq (aQ.Reads (dx base w4)) (rs++[r3]) (fs++[m]) :=
  (kJ.mono (fun _ _ h=>h.mono (fun _ _ h=>(h.dm iz).fr kS Em))).app (.cons (rP.mono (fun _ _ h=>h.fr kS Em)) .nil)
 have CC:gy base w4 (.slice (some ⟨gg,0,none⟩) (fs.length+1) cap) (fs++[m]):=by
  refine⟨rs++[r3],⟨?_,?_⟩,vQ⟩
  ·intro x hx;rw[bI]at hx;rcases bL.1 hx with hx|hx
   ·exact ho.1 x hx
   ·simp at hx;subst hx;exact⟨rfl,qZ⟩
  ·rw[bI,ey,aK,ai,vN];simpa using fg
 have h3:=h2.dm iz;have tH:=kS.keep h3.eN h3.gb;have qQ:ks base w4 wv ws:=h3.waits.fr kS Em (fun k hk hg=>h3.gw hg hk);have UU:Fr (dy b gv wv) w2 w4:=gl (iz.mono (fun _ _ h=>absurd h id)) kS (fun _ _ hk=>Or.inr (Or.inl hk));refine⟨nS lD tH CC qQ,UU.setCell (p:=⟨b,0,none⟩) (fun _=>Or.inl rfl) _,?_⟩;rintro k(hk|hk|hk)
 ·exact Or.inl (Or.inl hk)
 ·have e:gg=k:=by simpa[own,Value.ownBlock]using hk
  subst e;rcases dS with dS|dS
  ·exact Or.inl (Or.inr (Or.inl dS))
  ·exact Or.inr dS
 ·exact Or.inl (Or.inr (Or.inr hk))
theorem LF{base:Nat}{w5 w6:World}{b gg cap n:Nat}{wv:Value}{ls:List (aQ bE)}{ws:List (bK bE)}{rs:List (aQ Value)}(h5:dH base w5 b (.slice (some ⟨gg,0,none⟩) ls.length cap) wv ls ws)
  (hb:lq (aQ.Reads (dx base w5)) rs ls)(zN:OwnRows base 114 16 w6 (.slice (some ⟨gg,0,none⟩) (0+(ls.length-n)) cap) ((rs.map aQ.cells).take 0++(rs.map aQ.cells).drop n))(nL:Fr (one gg) w5 w6) :
  dH base (w6.setCell ⟨b,0,none⟩ (.slice (some ⟨gg,0,none⟩) (0+(ls.length-n)) cap)) b (.slice (some ⟨gg,0,none⟩) (0+(ls.length-n)) cap) wv (ls.drop n) ws /\
  Fr (dy b (.slice (some ⟨gg,0,none⟩) ls.length cap) wv) w5 (w6.setCell ⟨b,0,none⟩ (.slice (some ⟨gg,0,none⟩) (0+(ls.length-n)) cap))/\w6.cell? ⟨b,0,none⟩=some (.slice (some ⟨gg,0,none⟩) ls.length cap)/\w6.frozen? ⟨b,0,none⟩=false:=by
 have lD:=h5.low;have ef:∀k,one gg k->own (.slice (some ⟨gg,0,none⟩) ls.length cap) k:=fun k hk=>by have e:k=gg:=hk;rw[e];rfl
 have nd:sG base w5 (one gg):=fun k hk hl=>h5.off k (Or.inr (Or.inl (ef k hk))) hl;have tH:=nL.keep h5.eN (fun h=>h5.gb (ef _ h));have Ae:ks base w6 wv ws:=h5.waits.fr nL nd (fun k hk hg=>h5.gw (ef _ hg) hk);have hg6:gy base w6 (.slice (some ⟨gg,0,none⟩) (0+(ls.length-n)) cap) (ls.drop n):=by
  refine⟨rs.drop n,?_,(hb.mono (fun _ _ h=>h.mono (fun _ _ h=>h.fr nL nd))).drop n⟩;rw[List.take_zero,List.nil_append]at zN;rw[List.map_drop];exact zN
 have UU:Fr (dy b (.slice (some ⟨gg,0,none⟩) ls.length cap) wv) w5 w6:=nL.mono (fun k _ hk=>Or.inr (Or.inl (ef k hk)));exact⟨nS lD tH hg6 Ae,UU.setCell (p:=⟨b,0,none⟩) (fun _=>Or.inl rfl) _,by simp[World.cell?,tH],by simp[World.frozen?,tH]⟩
theorem QB(base:Nat)(w:World)(b:Nat)(gv wv:Value)(gs:List (aQ bE))(ws:List (bK bE))(g:aQ Value)(m:aQ bE)(h:dH base w b gv wv gs ws)(hg:g.Reads (dx base w) m)(Oa:gs.length<34359738368) :
  aB 57 #[.pointer (some ⟨b,0,none⟩),.agg g.cells.toArray] w (Jb base w b gv wv (vU gs m) ws):=by
 obtain⟨x,hx⟩:∃x,x=g.cells:=⟨_,rfl⟩;have lM:x.length=16:=by rw[hx];rfl
 have sS:=h.lt;have lD:=h.low;have pq:Fr aS w (w.alloc (.cells x.toArray 114)):=(ae aS w).alloc _;have h1:=h.dm pq;have Ge:=hg.mono (fun _ _ h=>h.dm pq);have qB:(w.alloc (.cells x.toArray 114)).heap[w.heap.size]?=some (.cells x.toArray 114 (0,0)):=aC _ _;have nx:∀i u,g.cells[i]?=some u->(w.alloc (.cells x.toArray 114)).cell? ⟨w.heap.size,i,none⟩=some u:=fun i u hu=>by
  rw[<-hx]at hu;simp only[World.cell?,qB];simpa using hu
 have c0:=nx 0 _ rfl;have c1:=nx 1 _ rfl;have c2:=nx 2 _ rfl;have c3:=nx 3 _ rfl;have c7:=nx 7 _ rfl;have tz:=O (Ad base _ b gv wv gs ws g.o g.proxy g.a.aM h1);have ui:=O qB;have HG:=O Ge;have HX:=O hx;rw[<-hx];clear hg Ge qB nx hx;go_enter func57,ntmps57;go_wp2_with fail
 clear c0 c1 c2 c3 c7;have Fq:w.heap.size<(w.alloc (.cells x.toArray 114)).heap.size:=aR;generalize w.alloc (.cells x.toArray 114)=W at *
 refine tz.o.mono ?_;intro e w2 hpd;obtain⟨rfl,gv2,wv2,h2,dE,LG⟩:=hpd;have nd:=h1.off;have qt:¬dy b gv wv w.heap.size:=by
  rintro(e|hk|hk)
  ·omega
  ·obtain⟨c,e⟩:=h.ur hk;have:=bq e;omega
  ·obtain⟨c,e⟩:=h.wW hk;have:=bq e;omega
 have Af:=O (dE.keep ui.o qt);have xT:=O (HG.o.mono (fun _ _ h=>h.fr dE nd));have Z1:(gs.filter (fun g_1=>!np g.o g.proxy g.a.aM g_1)).length<=gs.length:=bW _ _;obtain⟨fs,kR⟩:∃fs,fs=gs.filter (fun g_1=>!np g.o g.proxy g.a.aM g_1):=⟨_,rfl⟩;rw[<-kR]at h2 Z1 ⊢;have VC:=O kR;have jz:Fr (dy b gv wv) w w2:=gl (pq.mono (fun _ _ h=>absurd h id)) dE (fun _ _ h=>h);clear tz pq dE nd kR h1 h ui HG
 have D8:=O (show vU gs m=(fs++[m]).drop (fs.length+1-8)by
  have hr:=xT.o;unfold vU;rw[<-hr.1, <-hr.2.1, <-hr.2.2.2.2.1.2.1, <-VC.o];simp)
 obtain⟨av,cv,Vy⟩:=h2.bG.form;subst Vy;have d0:=h2.c0;have e0:=h2.free 0;obtain⟨rs,ho,kJ⟩:=h2.bG;have cW:=ho.2;have oH:∀i u,g.cells[i]?=some u->w2.cell? ⟨w.heap.size,i,none⟩=some u:=fun i u hu=>by
  have e:=HX.o;rw[<-e]at hu;simp only[World.cell?,Af.o];simpa using hu
 have x0:=oH 0 _ rfl;have x1:=oH 1 _ rfl;have x2:=oH 2 _ rfl;have x3:=oH 3 _ rfl;have x4:=oH 4 _ rfl;have x5:=oH 5 _ rfl;have x6:=oH 6 _ rfl;have x7:=oH 7 _ rfl;have x8:=oH 8 _ rfl;have x9:=oH 9 _ rfl;have Z2:=oH 10 _ rfl;have Z3:=oH 11 _ rfl;have x12:=oH 12 _ rfl;have x13:=oH 13 _ rfl;have x14:=oH 14 _ rfl;have x15:=oH 15 _ rfl;have RX:¬own (.slice av fs.length cv) w.heap.size:=fun hk=>by
  rcases LG _ (Or.inr (Or.inl hk))with h|h
  ·exact qt h
  ·omega
 have fH:=O (show∀U,Fr aS w2 U->aB 93 #[.agg #[.bool g.o.aG,.string g.o.host,.int .i64 g.o.port,.bool g.proxy,.string g.user,.string g.pass,.int .i64 g.a.scheme,.string g.a.aM,.string g.a.bu,.string g.a.cz,.bool g.a.cD,.string g.a.eJ,.bool g.a.cR,g.a.dom,.int .i64 g.count,g.paths]] U (Vw base m U)from fun U hU=>by
  exact uU base g m U (by have:=h2.lt;have:=hU.size;omega) (xT.o.mono (fun _ _ h=>h.dm hU)))
 obtain⟨i0,qN,pD,ll,lF⟩:=info_parts yM;have HO:=O ho;have qj:=O kJ;have vN:=kJ.len;have UN:=O (show(rs.map aQ.cells).length=fs.length by rw[ai,vN]);have avo:base<=w2.heap.size:=by have:=h2.lt;omega
 have AY:¬own (.slice av fs.length cv) b:=h2.gb
 have En:=O (show∀U,Fr (own (.slice av fs.length cv)) w2 U->U.cell? ⟨b,0,none⟩=some (.slice av fs.length cv)/\U.cell? ⟨w.heap.size,0,none⟩=some (.bool g.o.aG)/\U.cell? ⟨w.heap.size,1,none⟩=some (.string g.o.host)/\U.cell? ⟨w.heap.size,2,none⟩=some (.int .i64 g.o.port)/\U.cell? ⟨w.heap.size,3,none⟩=some (.bool g.proxy)/\U.cell? ⟨w.heap.size,4,none⟩=some (.string g.user)/\U.cell? ⟨w.heap.size,5,none⟩=some (.string g.pass)/\U.cell? ⟨w.heap.size,6,none⟩=some (.int .i64 g.a.scheme)/\U.cell? ⟨w.heap.size,7,none⟩=some (.string g.a.aM)/\U.cell? ⟨w.heap.size,8,none⟩=some (.string g.a.bu)/\U.cell? ⟨w.heap.size,9,none⟩=some (.string g.a.cz)/\U.cell? ⟨w.heap.size,10,none⟩=some (.bool g.a.cD)/\U.cell? ⟨w.heap.size,11,none⟩=some (.string g.a.eJ)/\U.cell? ⟨w.heap.size,12,none⟩=some (.bool g.a.cR)/\U.cell? ⟨w.heap.size,13,none⟩=some (g.a.dom)/\U.cell? ⟨w.heap.size,14,none⟩=some (.int .i64 g.count)/\U.cell? ⟨w.heap.size,15,none⟩=some (g.paths)from fun U hU=>by
  have hc:∀i u,g.cells[i]?=some u->U.cell? ⟨w.heap.size,i,none⟩=some u:=fun i u hu=>(hU.cell (p:=⟨w.heap.size,i,none⟩) (bq Af.o) RX).trans (oH i u hu);exact⟨(hU.cell (p:=⟨b,0,none⟩) h2.lt AY).trans d0,hc 0 _ rfl,hc 1 _ rfl,hc 2 _ rfl,hc 3 _ rfl,hc 4 _ rfl,hc 5 _ rfl,hc 6 _ rfl,hc 7 _ rfl,hc 8 _ rfl,hc 9 _ rfl,hc 10 _ rfl,hc 11 _ rfl,hc 12 _ rfl,hc 13 _ rfl,hc 14 _ rfl,hc 15 _ rfl⟩)
 clear ho kJ vN cW oH;go_wp2_with fail
 go_region_law (first
   |((with_reducible refine mX ⟨some 20,_,_,_,_,_⟩ ?_)
     refine Bh rfl 93 _ (by go_simp) (fH.o _ (by repeat(first|exact ae _ _|apply aA))) ?_
     intro e w3 Ob
     obtain⟨r3,rfl,rP,qZ,iz⟩:=Ob
     refine⟨_,rfl,?_⟩
     have il:Fr aS w2 w3:=bF (by repeat(first|exact ae _ _|apply aA)) iz
     have hk:=En.o w3 (il.mono (fun _ _ h=>absurd h id))
     have k3:=hk.1
     have hbl:b<w3.heap.size:=cK h2.lt il.size
     obtain⟨y,hy⟩:∃y,y=r3.cells:=⟨_,rfl⟩
     have Du:y.length=16:=by rw[hy];rfl
     have HY:=O hy
     rw[<-hy]at qZ ⊢
     have GV:=wJ y #[.bool false,.string ⟨#[]⟩,.int .i64 0,.bool false,.string ⟨#[]⟩,.string ⟨#[]⟩,.int .i64 0,.string ⟨#[]⟩,.string ⟨#[]⟩,.string ⟨#[]⟩,.bool false,.string ⟨#[]⟩,.bool false,.slice none 0 0,.int .i64 0,.slice none 0 0] (by rw[Du];rfl)
     have fC:w3.ownsRow base 114 16 (.slice av fs.length cv) fs.length (rs.map aQ.cells).flatten:=by
       have h:=(HO.o.fr il (fun _ _ h=>h)).2
       rw[UN.o]at h
       exact h
     have tO:base<=w3.heap.size:=by have:=il.size;omega
     clear hy iz)
   |((with_reducible refine mX ⟨some 22,_,_,_,_,_⟩ ?_)
     refine step_append_lies _ bD _ _ _ bD base 114 i0 _ 16 216 underlying77 qN pD ll lF rfl ab (.slice av fs.length cv) fs.length _ bD (by repeat(first|exact fC|apply World.ownsRow.alloc|apply World.ownsRow.drew)) ⟨w3.heap.size,0,none⟩ 1 1 y bD (by rw[Du]) (kY w3 y _) qZ ab ft ab bH (w3.heap.size+1) aR ?_
     intro gg cap w4 fg jJ dS LH
     have aiI:Fr (own (.slice av fs.length cv)) w2 w3:=il.mono (fun _ _ h=>absurd h id)
     have j6:Fr (own (.slice av fs.length cv)) w2 w4:=fy (by repeat(first|exact aiI|apply aA|apply bB)) jJ (fun _ hk _=>hk)
     have Jc:Fr (own (.slice av fs.length cv)) w3 w4:=fy (by repeat(first|exact ae _ _|apply aA|apply bB)) jJ (fun _ hk _=>hk)
     have hk:=En.o w4 j6
     have k4:=hk.1
     have e4:w4.frozen? ⟨b,0,none⟩=false:=(j6.frozen (p:=⟨b,0,none⟩) h2.lt AY).trans e0))
 all_goals
  rw[HY.o]at fg qZ;obtain⟨h5,hF5,RY⟩:=GY h2 HO.o qj.o il rP qZ Jc fg (dS.imp id (fun h=>by have:=il.size;omega));have d5:=h5.c0;have e5:=h5.free 0;clear fH En fg jJ j6 Jc fC aiI k4 e4 hk k3 x0 x1 x2 x3 x4 x5 x6 x7 x8 x9 Z2 Z3 x12 x13 x14 x15 d0 e0 GV rP qZ;generalize w4.setCell ⟨b,0,none⟩ (.slice (some ⟨gg,0,none⟩) (fs.length+1) cap)=w5 at *
  have xN:(fs++[m]).length=fs.length+1:=aR;have Nn:=O xN;have yR:Fr (dy b gv wv) w w5:=jz.step hF5 (fun k hk hb=>by
   rcases LG k hb with h|h
   ·exact h
   ·omega)
  have FR:∀k,dy b (.slice (some ⟨gg,0,none⟩) (fs.length+1) cap) wv2 k->dy b gv wv k\/w.heap.size<=k:=fun k hk=>by
   rcases RY k hk with h|h
   ·rcases LG k h with h|h
    ·exact Or.inl h
    ·exact Or.inr ab
   ·exact Or.inr (by have:=jz.size;omega)
  by_cases h8:8<=fs.length
  ·have h8':(8:Int)<(fs.length:Int)+1:=ab;obtain⟨n,hn⟩:∃n:Nat,fs.length+1=n+8:=⟨fs.length+1-8,ab⟩;rw[<-xN]at h5;obtain⟨rs5,Nh,FT⟩:=h5.bG;have Oe:=O (show(rs5.map aQ.cells).length=fs.length+1 by rw[ai,FT.len,xN]);have qV:=O (GW base gg cap 0 n (rs5.map aQ.cells) w5 (by rw[Oe.o, <-xN];exact Nh) ab (by rw[Oe.o];omega));have RZ:=O hn;rw[Oe.o]at qV;clear hn xN;go_wp2_with fail
   rw[show((fs.length:Int)+1-8)=(n:Int)from by have:=RZ.o;omega];refine qV.o.mono ?_;rintro e w6⟨rfl,zN,nL⟩;obtain⟨h7,TY,d7,e7⟩:=LF (n:=n) h5 FT (by rw[Nn.o];exact zN) nL;rw[Nn.o,bz]at h7 TY;rw[Nn.o]at d7;have H7:=O h7;have GB:=O TY;clear h7 TY qV zN FT Nh;go_wp2_with fail
   go_end0;refine⟨rfl,_,_,by rw[D8.o,show fs.length+1-8=n from by have:=RZ.o;omega];exact H7.o,yR.step GB.o (fun k hk hb=>by
    rcases FR k hb with h|h
    ·exact h
    ·omega),fun k hk=>FR k ?_⟩
   rcases hk with h|h|h
   ·exact Or.inl h
   ·exact Or.inr (Or.inl h)
   ·exact Or.inr (Or.inr h)
  ·have h8':¬(8:Int)<(fs.length:Int)+1:=ab;go_wp2_with fail
   go_end0;exact⟨rfl,_,_,by rw[D8.o,show fs.length+1-8=0 from ab,eI];exact h5,yR,FR⟩
structure gC (D:Type) where
 part:Int
 dt:gG
 o:gG
 path:aj
 query:aj
 method:aj
 eB:D
 f_:Bool
 body:aj
def gC.cells(r:gC Value):aZ:=[.int .i64 r.part,.bool r.dt.aG,.string r.dt.host,.int .i64 r.dt.port,.bool r.o.aG,.string r.o.host,.int .i64 r.o.port,.string r.path,.string r.query,.string r.method,r.eB,.bool r.f_,.string r.body]
def gC.dW(r:gC D)(hs:List ig):rm:=⟨r.dt,r.o,r.path,r.query,r.method,hs,r.f_⟩
def q_(w:World)(v:Value)(ps:List ez):Prop:=dZ 12 w v (ps.map ez.cells)
def Je(x:aZ):ez:=⟨⟨cB x 0,cS x 1,cI x 2⟩,⟨cB x 3,cS x 4,cI x 5⟩,cS x 6,cS x 7,cB x 8,cS x 9,cS x 10,cI x 11⟩
theorem Eu(ps:List ez)(f:ez->Bool):(ps.map ez.cells).any (fun x=>f (Je x))=ps.any f:=by
 rw[List.any_map];rfl
theorem VR(p:ez)(m:aj)(r:gC Value)(bm br:Nat)(w:World)(hm:w.heap[bm]?=some (.cells #[.string m] 9 (0,0)))(hr:w.heap[br]?=some (.cells r.cells.toArray 37 (0,0))) :
  aB 121 #[.agg p.cells.toArray,.pointer (some ⟨bm,0,none⟩),.pointer (some ⟨br,0,none⟩)] w fun e w'=>e=.returned (.bool (p.lets m r.f_))/\Fr aS w w':=by
 unfold ez.cells;unfold gC.cells at hr;have gX:Fr aS w _:=(ae aS w).alloc (.cells #[.bool p.dt.aG,.string p.dt.host,.int .i64 p.dt.port,.bool p.o.aG,.string p.o.host,.int .i64 p.o.port,.string p.path,.string p.query,.bool p.f_,.string p.method,.string p.head,.int .i64 p.qh] 155);have J4:=gX.keep hm id;have oF:=gX.keep hr id
 have cm:(w.alloc (.cells #[.bool p.dt.aG,.string p.dt.host,.int .i64 p.dt.port,.bool p.o.aG,.string p.o.host,.int .i64 p.o.port,.string p.path,.string p.query,.bool p.f_,.string p.method,.string p.head,.int .i64 p.qh] 155)).cell? ⟨bm,0,none⟩=some (.string m):=by simp[World.cell?,J4]
 clear J4;have sI:=O gX;cases e1:(p.method.toList==m.toList)
 ·cases e2:(p.method.toList==star)
  ·have HR:=O (show p.lets m r.f_=false by unfold ez.lets;rw[e1,e2];rfl);have e2':(p.method.toList== [42])=false:=e2;clear gX hm hr e2;go_enter func121,ntmps121;go_wp2;go_ret;exact⟨by rw[HR.o];rfl,sI.o⟩
  ·have e2':(p.method.toList== [42])=true:=e2;have cw:(w.alloc (.cells #[.bool p.dt.aG,.string p.dt.host,.int .i64 p.dt.port,.bool p.o.aG,.string p.o.host,.int .i64 p.o.port,.string p.path,.string p.query,.bool p.f_,.string p.method,.string p.head,.int .i64 p.qh] 155)).cell? ⟨br,11,none⟩=some (.bool r.f_):=by simp[World.cell?,oF]
   cases e3:r.f_
   ·have HR:=O (show p.lets m false=true by unfold ez.lets;rw[e1,e2];rfl);rw[e3]at cw;clear gX hm hr e2 oF e3;go_enter func121,ntmps121;go_wp2;go_ret;exact⟨by rw[HR.o];rfl,sI.o⟩
   ·have HR:=O (show p.lets m true=false by unfold ez.lets;rw[e1,e2];rfl);rw[e3]at cw;clear gX hm hr e2 oF e3;go_enter func121,ntmps121;go_wp2;go_ret;exact⟨by rw[HR.o];rfl,sI.o⟩
 ·have HR:=O (show p.lets m r.f_=true by unfold ez.lets;rw[e1];rfl);clear gX hm hr;go_enter func121,ntmps121;go_wp2;go_ret;exact⟨by rw[HR.o];rfl,sI.o⟩
theorem LP(p:ez)(m:aj)(r:gC Value)(bm br:Nat)(w:World)(hm:w.heap[bm]?=some (.cells #[.string m] 9 (0,0)))(hr:w.heap[br]?=some (.cells r.cells.toArray 37 (0,0))) :
  aB 123 #[.agg p.cells.toArray,.pointer (some ⟨bm,0,none⟩),.pointer (some ⟨br,0,none⟩)] w fun e w'=>e=.returned (.bool (p.nk m r.f_))/\Fr aS w w':=by
 unfold ez.cells;unfold gC.cells at hr;have gX:Fr aS w _:=(ae aS w).alloc (.cells #[.bool p.dt.aG,.string p.dt.host,.int .i64 p.dt.port,.bool p.o.aG,.string p.o.host,.int .i64 p.o.port,.string p.path,.string p.query,.bool p.f_,.string p.method,.string p.head,.int .i64 p.qh] 155);have J4:=gX.keep hm id;have oF:=gX.keep hr id
 have cm:(w.alloc (.cells #[.bool p.dt.aG,.string p.dt.host,.int .i64 p.dt.port,.bool p.o.aG,.string p.o.host,.int .i64 p.o.port,.string p.path,.string p.query,.bool p.f_,.string p.method,.string p.head,.int .i64 p.qh] 155)).cell? ⟨bm,0,none⟩=some (.string m):=by simp[World.cell?,J4]
 clear J4;have sI:=O gX;cases e1:(p.head.toList==m.toList)
 ·cases e2:(p.head.toList==star)
  ·have HR:=O (show p.nk m r.f_=false by unfold ez.nk;rw[e1,e2];rfl);have e2':(p.head.toList== [42])=false:=e2;clear gX hm hr e2;go_enter func123,ntmps123;go_wp2;go_ret;exact⟨by rw[HR.o];rfl,sI.o⟩
  ·have e2':(p.head.toList== [42])=true:=e2;have cw:(w.alloc (.cells #[.bool p.dt.aG,.string p.dt.host,.int .i64 p.dt.port,.bool p.o.aG,.string p.o.host,.int .i64 p.o.port,.string p.path,.string p.query,.bool p.f_,.string p.method,.string p.head,.int .i64 p.qh] 155)).cell? ⟨br,11,none⟩=some (.bool r.f_):=by simp[World.cell?,oF]
   cases e3:r.f_
   ·rw[e3]at cw;cases e4:(m.toList==abV)
    ·have HR:=O (show p.nk m false=true by unfold ez.nk;rw[e1,e2];unfold bne;rw[e4];rfl);have e4':(m.toList== [97,117,116,104,111,114,105,122,97,116,105,111,110])=false:=e4;clear gX hm hr e2 oF e3 e4;go_enter func123,ntmps123;go_wp2;go_ret;exact⟨by rw[HR.o];rfl,sI.o⟩
    ·have HR:=O (show p.nk m false=false by unfold ez.nk;rw[e1,e2];unfold bne;rw[e4];rfl);have e4':(m.toList== [97,117,116,104,111,114,105,122,97,116,105,111,110])=true:=e4;clear gX hm hr e2 oF e3 e4;go_enter func123,ntmps123;go_wp2;go_ret;exact⟨by rw[HR.o];rfl,sI.o⟩
   ·have HR:=O (show p.nk m true=false by unfold ez.nk;rw[e1,e2];rfl);rw[e3]at cw;clear gX hm hr e2 oF e3;go_enter func123,ntmps123;go_wp2;go_ret;exact⟨by rw[HR.o];rfl,sI.o⟩
 ·have HR:=O (show p.nk m r.f_=true by unfold ez.nk;rw[e1];rfl);clear gX hm hr;go_enter func123,ntmps123;go_wp2;go_ret;exact⟨by rw[HR.o];rfl,sI.o⟩
theorem Ev(g:Nat)(cap:bT)(p:aZ->Bool)(v:Value)(xs:dh)(bl:Nat)(w:World)(eg:∀args w,(callFunc g args).run prog w=.ok (.enter g args) w)(hp:gT aS w g cap p xs)(hv:dZ 12 w v xs)(hl:w.heap[bl]?=some (.cells #[v] 90 (0,0))) :
  aB 118 #[.func (.func g) #[] cap,.pointer (some ⟨bl,0,none⟩)] w fun e w'=>e=.returned (.bool (xs.any p))/\Fr aS w w':=by
 have hc:=O (CK g cap p v xs w eg hp hv);obtain⟨av,cv,rfl⟩:=hv.form;have c0:w.cell? ⟨bl,0,none⟩=some (.slice av xs.length cv):=by simp[World.cell?,hl]
 clear hv hl hp;go_enter func118,ntmps118;go_wp2_with fail
 refine hc.o.mono ?_;rintro e u⟨rfl,hf⟩;go_wp2;go_ret;exact⟨rfl,hf⟩
def G_(r:gC Value)(hs:List ig):Prop:=r.method.size<100000/\hs.length<100000/\∀p∈hs,p.1.size<100000/\p.2.size<100000
def acy(hs:List aj)(f_:Bool)(ps:List ez)(w:World)(t:Value)(wr:World):Prop :=
 ∃k:Nat,k<=hs.length/\t=.int .i64 k/\(hs.take k).all (fun h=>ps.any (ez.nk h f_))=true/\Fr aS w wr
theorem uW{α:Type}{p:α->Bool}{l:List α}{x:α}(h:l[k]?=some x)(hn:(l.take k).all p=true)(hp:p x=true):(l.take (k+1)).all p=true:=by
 rw[d_ h,ki,hn];simp[hp]
theorem yT{α:Type}{p:α->Bool}{l:List α}{x:α}(h:l[k]?=some x)(hp:p x=false):l.all p=false:=by
 rw[jt];exact⟨x,bQ h,by simp[hp]⟩
theorem yU(r:gC Value)(hs:List ig)(v:Value)(ps:List ez)(w:World)(hr:oX w r.eB hs)(hv:q_ w v ps)(hz:G_ r hs) :
  aB 62 #[.agg r.cells.toArray,v] w fun e w'=>e=.returned (.bool ((r.dW hs).nt ps))/\Fr aS w w':=by
 have gO:=O (show(r.dW hs).nt ps=((rh (jT r.method)||ps.any (ez.lets (jT r.method) r.f_))&&(yy hs).all fun h=>ps.any (ez.nk h r.f_))from rfl);generalize (r.dW hs).nt ps=res at gO ⊢;obtain⟨av,cv,Lw⟩:=dU hv;rw[ai]at Lw;subst Lw;obtain⟨ah,ch,g_⟩:=dU hr;rw[ai]at g_;obtain⟨rc,uX⟩:∃rc,rc=r.cells.toArray:=⟨_,rfl⟩
 obtain⟨wb,kj⟩:∃wb,wb=(w.alloc (.cells rc 37)).alloc (.cells #[.slice av ps.length cv] 90):=⟨_,rfl⟩;have kC:Fr aS w wb:=by rw[kj];exact((ae aS w).alloc _).alloc _
 have hsb:wb.heap.size=w.heap.size+2:=by rw[kj];simp
 have lZ:wb.heap[w.heap.size]?=some (.cells rc 37 (0,0)):=by rw[kj];exact((ae aS _).alloc _).keep (aC _ _) id
 have sH:wb.heap[w.heap.size+1]?=some (.cells #[.slice av ps.length cv] 90 (0,0)):=by
  have h:=aC (w.alloc (.cells rc 37)) (.cells #[.slice av ps.length cv] 90);rw[bP]at h;rw[kj];exact h
 have HC:=O (show∀U,Fr aS wb U->U.heap[w.heap.size]?=some (.cells r.cells.toArray 37 (0,0))/\U.heap[w.heap.size+1]?=some (.cells #[.slice av ps.length cv] 90 (0,0))from fun U hU=>⟨by rw[<-uX];exact hU.keep lZ id,hU.keep sH id⟩);have HX:=O (show∀U,Fr aS wb U->U.cell? ⟨w.heap.size,9,none⟩=some (.string r.method)/\U.cell? ⟨w.heap.size,10,none⟩=some (.slice ah hs.length ch)from fun U hU=>by
  have j:=(HC.o U hU).1;unfold gC.cells at j;rw[g_]at j;simp[World.cell?,j])
 have HV:=O (show∀U,Fr aS w U->q_ U (.slice av ps.length cv) ps from fun U hU=>bh hv hU);have HH:=O (show∀U,Fr aS w U->oX U (.slice ah hs.length ch) hs from fun U hU=>by rw[<-g_];exact bh hr hU);have HZ:=O hz;have mF:=O kC;have ri:=O kj;have Qb:=O uX;clear hv hr hz kC kj lZ sH;rw[<-uX];clear uX;obtain⟨c9,G'⟩:=HX.o wb (ae _ _);rw[ri.o]at c9 G';go_enter func62,ntmps62;go_wp2_with fail
 rw[<-ri.o];refine(yx r.method wb HZ.o.1).mono ?_;rintro e u1⟨rfl,dk⟩;obtain⟨m,hm⟩:∃m,m=jT r.method:=⟨_,rfl⟩;rw[<-hm]at gO ⊢;clear hm;obtain⟨w1,oJ⟩:∃w1,w1=u1.alloc (.cells #[.string m] 9):=⟨_,rfl⟩;have hmb:w1.heap[u1.heap.size]?=some (.cells #[.string m] 9 (0,0)):=by rw[oJ];exact aC _ _
 have dE:Fr aS wb w1:=by rw[oJ];exact dk.alloc _
 have IV:=O oJ;have ln:=O dE;have k0:w1.cell? ⟨u1.heap.size,0,none⟩=some (.string m):=by simp[World.cell?,hmb]
 have HMB:=O hmb;clear dk dE c9 G' oJ hmb;go_wp2_with fail
 rw[<-IV.o];refine(NC m w1).mono ?_;rintro e u2⟨rfl,rfl⟩
 -- the method is allowed
 have xz:=O (show aB 118 #[.func (.func 121) #[] #[.pointer (some ⟨u1.heap.size,0,none⟩),.pointer (some ⟨w.heap.size,0,none⟩)],.pointer (some ⟨w.heap.size+1,0,none⟩)] w1 fun e w'=>e=.returned (.bool (ps.any (ez.lets m r.f_)))/\Fr aS w1 w' from by
  rw[<-Eu];refine Ev _ _ (fun x=>ez.lets m r.f_ (Je x)) _ _ _ w1 call121 ?_ (HV.o w1 (mF.o.trans ln.o)) (HC.o w1 ln.o).2;intro x hx u hu;obtain⟨p,hp,rfl⟩:=bZ.1 hx;exact VR p m r _ _ u (hu.keep HMB.o id) ((HC.o u (ln.o.trans hu)).1))
 cases pz:rh m
 ·cases tu:ps.any (ez.lets m r.f_)
  ·have HR:=O (show res=false by rw[gO.o,pz,tu];rfl);rw[tu]at xz;clear pz tu gO;go_wp2_with fail
   refine xz.o.mono ?_;rintro e u3⟨rfl,iz⟩;go_wp2;go_ret;exact⟨by rw[HR.o];rfl,(mF.o.trans ln.o).trans iz⟩
  ·have Oq:=O (show res=(yy hs).all (fun h=>ps.any (ez.nk h r.f_))by rw[gO.o,pz,tu];rfl);rw[tu]at xz;clear pz tu gO;go_wp2_with fail
   refine xz.o.mono ?_;rintro e u3⟨rfl,iz⟩;have il:=O (ln.o.trans iz);obtain⟨c9,G'⟩:=HX.o _ il.o;clear iz xz;go_wp2_with fail
   refine(Gv hs _ u3 (HH.o u3 (mF.o.trans il.o)) HZ.o.2.1 HZ.o.2.2).mono ?_;rintro e u4⟨uv,rfl,jx,kS⟩;obtain⟨au,cu,huf⟩:=jx.form;obtain⟨nl,se⟩:∃nl,nl=yy hs:=⟨_,rfl⟩;rw[<-se]at jx huf Oq;subst huf;have j6:=O (il.o.trans kS);have lO:=O jx.at;clear kS jx se c9 G';go_wp2;go_loopw[26] (acy nl r.f_ ps u4) (fun i _=>nl.length-(intOf i).toNat)
   case atStart=>exact⟨0,aL _,rfl,rfl,ae _ _⟩
   case round =>
    obtain⟨k,hk,rfl,iI,cP⟩:=hrel;have Bg:=O iI;clear iI;by_cases fe:k<nl.length
    ·have pE:(k:Int)<(nl.length:Int):=ab;rcases lO.o.fN cP with ⟨_,_,_,e,_⟩|⟨bk,o,c,hf,h1,h2,h3,h4⟩
     ·rw[e]at fe;exact absurd fe (bV _)
     ·cases hf;unfold maxLen at h2;have dS:=O (List.getElem?_eq_getElem fe);have hc:=h4 k _ dS.o;generalize nl[k]=x at dS hc;clear h4;obtain⟨wx,Ot⟩:∃wx,wx=wr.alloc (.cells #[.string x] 9):=⟨_,rfl⟩;have Zp:wx.heap[wr.heap.size]?=some (.cells #[.string x] 9 (0,0)):=by rw[Ot];exact aC _ _
      have Kw:Fr aS wr wx:=by rw[Ot];exact(ae _ _).alloc _
      have C9:=O ((j6.o.trans cP).trans Kw);have Z':=O (show aB 118 #[.func (.func 123) #[] #[.pointer (some ⟨wr.heap.size,0,none⟩),.pointer (some ⟨w.heap.size,0,none⟩)],.pointer (some ⟨w.heap.size+1,0,none⟩)] wx fun e w'=>e=.returned (.bool (ps.any (ez.nk x r.f_)))/\Fr aS wx w' from by
       rw[<-Eu];refine Ev _ _ (fun y=>ez.nk x r.f_ (Je y)) _ _ _ wx call123 ?_ (HV.o wx (mF.o.trans C9.o)) (HC.o wx C9.o).2;intro y hy u hu;obtain⟨p,hp,rfl⟩:=bZ.1 hy;exact LP p x r _ _ u (hu.keep Zp id) ((HC.o u (C9.o.trans hu)).1))
      have T4:=O Ot;have qD:=O (cP.trans Kw);clear Ot;cases jv:ps.any (ez.nk x r.f_)
      ·have HR:=O (show res=false by rw[Oq.o];exact yT dS.o jv);rw[jv]at Z';clear jv;go_wp2_with fail
       rw[<-T4.o];refine Z'.o.mono ?_;rintro e u6⟨rfl,nL⟩;go_wp2;go_ret;exact⟨by rw[HR.o];rfl,(mF.o.trans C9.o).trans nL⟩
      ·have qt:=O (uW dS.o Bg.o jv);rw[jv]at Z';clear jv;go_wp2_with fail
       rw[<-T4.o];refine Z'.o.mono ?_;rintro e u6⟨rfl,nL⟩;go_wp2;go_roundw
       case rel=>exact⟨k+1,ab,bg,qt.o,qD.o.trans nL⟩
       case measure=>simp[intOf];omega
    ·have pE:¬(k:Int)<(nl.length:Int):=ab;have HR:=O (show res=true by rw[Oq.o];have h:=Bg.o;rwa [aD ab]at h);go_wp2;go_ret;exact⟨by rw[HR.o];rfl,mF.o.trans (j6.o.trans cP)⟩
 ·have Oq:=O (show res=(yy hs).all (fun h=>ps.any (ez.nk h r.f_))by rw[gO.o,pz];simp);clear pz gO xz;obtain⟨c9,G'⟩:=HX.o _ ln.o;go_wp2_with fail
  refine(Gv hs _ w1 (HH.o w1 (mF.o.trans ln.o)) HZ.o.2.1 HZ.o.2.2).mono ?_;rintro e u4⟨uv,rfl,jx,kS⟩;obtain⟨au,cu,huf⟩:=jx.form;obtain⟨nl,se⟩:∃nl,nl=yy hs:=⟨_,rfl⟩;rw[<-se]at jx huf Oq;subst huf;have j6:=O (ln.o.trans kS);have lO:=O jx.at;clear kS jx se c9 G';go_wp2;go_loopw[26] (acy nl r.f_ ps u4) (fun i _=>nl.length-(intOf i).toNat)
  case atStart=>exact⟨0,aL _,rfl,rfl,ae _ _⟩
  case round =>
   obtain⟨k,hk,rfl,iI,cP⟩:=hrel;have Bg:=O iI;clear iI;by_cases fe:k<nl.length
   ·have pE:(k:Int)<(nl.length:Int):=ab;rcases lO.o.fN cP with ⟨_,_,_,e,_⟩|⟨bk,o,c,hf,h1,h2,h3,h4⟩
    ·rw[e]at fe;exact absurd fe (bV _)
    ·cases hf;unfold maxLen at h2;have dS:=O (List.getElem?_eq_getElem fe);have hc:=h4 k _ dS.o;generalize nl[k]=x at dS hc;clear h4;obtain⟨wx,Ot⟩:∃wx,wx=wr.alloc (.cells #[.string x] 9):=⟨_,rfl⟩;have Zp:wx.heap[wr.heap.size]?=some (.cells #[.string x] 9 (0,0)):=by rw[Ot];exact aC _ _
     have Kw:Fr aS wr wx:=by rw[Ot];exact(ae _ _).alloc _
     have C9:=O ((j6.o.trans cP).trans Kw);have Z':=O (show aB 118 #[.func (.func 123) #[] #[.pointer (some ⟨wr.heap.size,0,none⟩),.pointer (some ⟨w.heap.size,0,none⟩)],.pointer (some ⟨w.heap.size+1,0,none⟩)] wx fun e w'=>e=.returned (.bool (ps.any (ez.nk x r.f_)))/\Fr aS wx w' from by
      rw[<-Eu];refine Ev _ _ (fun y=>ez.nk x r.f_ (Je y)) _ _ _ wx call123 ?_ (HV.o wx (mF.o.trans C9.o)) (HC.o wx C9.o).2;intro y hy u hu;obtain⟨p,hp,rfl⟩:=bZ.1 hy;exact LP p x r _ _ u (hu.keep Zp id) ((HC.o u (C9.o.trans hu)).1))
     have T4:=O Ot;have qD:=O (cP.trans Kw);clear Ot;cases jv:ps.any (ez.nk x r.f_)
     ·have HR:=O (show res=false by rw[Oq.o];exact yT dS.o jv);rw[jv]at Z';clear jv;go_wp2_with fail
      rw[<-T4.o];refine Z'.o.mono ?_;rintro e u6⟨rfl,nL⟩;go_wp2;go_ret;exact⟨by rw[HR.o];rfl,(mF.o.trans C9.o).trans nL⟩
     ·have qt:=O (uW dS.o Bg.o jv);rw[jv]at Z';clear jv;go_wp2_with fail
      rw[<-T4.o];refine Z'.o.mono ?_;rintro e u6⟨rfl,nL⟩;go_wp2;go_roundw
      case rel=>exact⟨k+1,ab,bg,qt.o,qD.o.trans nL⟩
      case measure=>simp[intOf];omega
   ·have pE:¬(k:Int)<(nl.length:Int):=ab;have HR:=O (show res=true by rw[Oq.o];have h:=Bg.o;rwa [aD ab]at h);go_wp2;go_ret;exact⟨by rw[HR.o];rfl,mF.o.trans (j6.o.trans cP)⟩
theorem R9(r:gC Value)(hs:List ig)(w:World)(hr:oX w r.eB hs)(hz:G_ r hs) :
  aB 61 #[.agg r.cells.toArray] w fun e w'=>e=.returned (.bool (r.dW hs).needs)/\Fr aS w w':=by
 have gO:=O (show(r.dW hs).needs=(!r.dt.lz r.o&&!(r.dW hs).nt [])from rfl);generalize (r.dW hs).needs=res at gO ⊢;have hne:=B6 r.dt r.o;obtain⟨wb,kj⟩:∃wb,wb=w.alloc (.cells r.cells.toArray 37):=⟨_,rfl⟩;have kC:Fr aS w wb:=by rw[kj];exact(ae aS w).alloc _
 have lZ:wb.heap[w.heap.size]?=some (.cells r.cells.toArray 37 (0,0)):=by rw[kj];exact aC _ _
 have nx:∀i u,r.cells[i]?=some u->wb.cell? ⟨w.heap.size,i,none⟩=some u:=fun i u hu=>by
  simp only[World.cell?,lZ];simpa using hu
 have c1:=nx 1 _ rfl;have c2:=nx 2 _ rfl;have c3:=nx 3 _ rfl;have c4:=nx 4 _ rfl;have c5:=nx 5 _ rfl;have c6:=nx 6 _ rfl;have xO:=O (yU r hs (.slice none 0 0) [] wb (bh hr kC) (show dZ 12 wb _ []from⟨aR,Or.inl ⟨_,_,rfl,rfl,fun _=>rfl⟩⟩) hz);have mF:=O kC;have c7:=nx 7 _ rfl;have c8:=nx 8 _ rfl;have c9:=nx 9 _ rfl;have G':=nx 10 _ rfl;have T5:=nx 11 _ rfl;have c12:=nx 12 _ rfl;have c0:=nx 0 _ rfl
 obtain⟨ah,ch,g_⟩:=dU hr;rw[ai]at g_;have uX:r.cells=[.int .i64 r.part,.bool r.dt.aG,.string r.dt.host,.int .i64 r.dt.port,.bool r.o.aG,.string r.o.host,.int .i64 r.o.port,.string r.path,.string r.query,.string r.method,.slice ah hs.length ch,.bool r.f_,.string r.body]:=by unfold gC.cells;rw[g_]
 rw[g_]at G';rw[uX]at xO kj ⊢;have ri:=O kj;clear g_ uX nx lZ kC kj hr hz;cases e1:r.dt.lz r.o
 ·have HR:=O (show res=!(r.dW hs).nt []by rw[gO.o,e1];rfl);rw[e1]at hne;clear gO e1;rw[ri.o]at c0 c1 c2 c3 c4 c5 c6 c7 c8 c9 G' T5 c12;go_enter func61,ntmps61;go_wp2_with fail
  rw[<-ri.o];refine xO.o.mono ?_;rintro e u⟨rfl,hf⟩;go_wp2;go_ret;exact⟨by rw[HR.o];rfl,mF.o.trans hf⟩
 ·have HR:=O (show res=false by rw[gO.o,e1];rfl);rw[e1]at hne;clear gO e1;rw[ri.o]at c0 c1 c2 c3 c4 c5 c6 c7 c8 c9 G' T5 c12;have HF:=O (ri.o▸mF.o);go_enter func61,ntmps61;go_wp2;go_ret;exact⟨by rw[HR.o];rfl,HF.o⟩
theorem wG.off{S:dF}(h:wG B b l w)(hf:Fr S w w')(hb:¬S b)(hS:∀g cur fz,w.heap[g]?=some (.cells cur 5 fz)->¬S g):wG B b l w':=by
 have key:∀p,Lib.BuilderAtF 179 5 B b p (uC l) w->Lib.BuilderAtF 179 5 B b p (uC l) w':=by
  rintro p⟨hB,v,hv,⟨hx,hr⟩,hne⟩;refine⟨hB,v,hf.keep hv hb,⟨hx,?_⟩,hne⟩;rcases hr with hr|⟨g,cap,cur,fz,rfl,h1,hg,h2⟩
  ·exact Or.inl hr
  ·exact Or.inr ⟨g,cap,cur,fz,rfl,h1,hf.keep hg (hS g cur fz hg),h2⟩
 exact h.elim (fun x=>Or.inl (key _ x)) (fun x=>Or.inr (key _ x))
theorem wG.fN(h:wG B b l w)(hf:Fr aS w w'):wG B b l w':=h.off hf id (fun _ _ _ _ h=>h)
def zO(w:World)(d:Nat)(x:Bool):Prop:=w.heap[d]?=some (.cells #[.bool x] 4 (0,0))
theorem zO.NS{d:Nat}{x:Bool}(h:zO w d x)(ho:ahK b w w')(hd:d≠b):zO w' d x :=
 ho d _ h (by simpa using hd) (fun c fz e=>by injection e with _ e2;exact absurd e2 ag)
def Bj(q:Bool)(v:Bs):Bs:=if q then(if oo v then fX v else [])else v
def Bk(q:Bool)(v:Bs):Bool:=q&&!oo v
def qO(l nm x:Bs):Bs:=l++((if 7<l.length then [44,32]else [])++(nm++61 :: x))
def Zx(B b d:Nat)(l:Bs)(bad:Bool)(nm v:Bs)(q:Bool)(w:World)(e:Ending)(w':World):Prop :=
 e=.returned (.tuple #[])/\wG B b (qO l nm (Bj q v)) w'/\zO w' d (bad||Bk q v)/\Below B w w'
theorem Ym(a b:Bs):bA a++⟨#[61]⟩++bA b=bA (a++61 :: b):=by
 apply Go.WideShapes.bytes_inj;simp[bA]
theorem Lf(v:Bs):(fX v).length<=2*v.length+2:=by
 have:=PX v;unfold fX;simp;omega
theorem Zy(B b d:Nat)(l nm v:Bs)(bad q:Bool)(w:World)(h:wG B b l w)(hd:zO w d bad)(hne:d≠b)(Nx:B<=d)(hn:nm.length<=1000)(hv:v.length<=100000)(hl:l.length<=100000000)(hB:B<=w.heap.size) :
  aB 99 #[.string (bA nm),.string (bA v),.bool q,.pointer (some ⟨d,0,none⟩),.pointer (some ⟨b,0,none⟩)] w (Zx B b d l bad nm v q w):=by
 have z1:(bA nm).size=nm.length:=rfl;have z2:(bA v).size=v.length:=rfl;have z3:(⟨#[61]⟩:aj).size=1:=rfl;cases q with
 |false =>
  have TQ:Bj false v=v:=rfl;go_enter func99,ntmps99;go_wp2_with fail
  refine(wH B b l w h).mono ?_;rintro e wl⟨rfl,rfl⟩;by_cases h7:7<l.length
  ·have Zz:(7:Int)<(l.length:Int):=ab;go_wp2_with fail
   refine(ew B b l ⟨#[44,32]⟩ w h (by show l.length+2<=_;omega) (aE hB (Below.refl B w).size)).mono ?_;rintro e wx⟨rfl,qB,Gr,DH⟩;have Ru:=(hd).NS DH hne;have ui:=O ((Below.refl B w).trans Gr);clear DH Gr;go_wp2_with fail
   rw[show bA nm++⟨#[61]⟩++bA v=bA (nm++61 :: v)from Ym nm v];refine(ew B b _ (bA (nm++61 :: v)) wx qB (by show(l++[44,32]).length+(nm++61 :: v).length<=_;simp;omega) (aE hB ui.o.size)).mono ?_;rintro e wy⟨rfl,rj,GC,IM⟩;have IP:=Ru.NS IM hne;go_wp2;go_end0;refine⟨rfl,?_,(by rw[show Bk false v=false from rfl,Bool.or_false];exact IP),ui.o.trans GC⟩
   have e:qO l nm v=l++(⟨#[44,32]⟩:aj).data.toList++(bA (nm++61 :: v)).data.toList:=by unfold qO;rw[az h7,fZ];simp
   rw[TQ,e];exact rj
  ·have Zz:¬(7:Int)<(l.length:Int):=ab;go_wp2_with fail
   rw[show bA nm++⟨#[61]⟩++bA v=bA (nm++61 :: v)from Ym nm v];refine(ew B b l (bA (nm++61 :: v)) w h (by show l.length+(nm++61 :: v).length<=_;simp;omega) (aE hB (Below.refl B w).size)).mono ?_;rintro e wy⟨rfl,rj,GC,IM⟩;have IP:=(hd).NS IM hne;go_wp2;go_end0;refine⟨rfl,?_,(by rw[show Bk false v=false from rfl,Bool.or_false];exact IP),(Below.refl B w).trans GC⟩
   have e:qO l nm v=l++(bA (nm++61 :: v)).data.toList:=by unfold qO;rw[aq h7,fZ];simp
   rw[TQ,e];exact rj
 |true =>
  have c0:∀U,Fr aS w U->U.cell? ⟨d,0,none⟩=some (.bool bad)/\U.frozen? ⟨d,0,none⟩=false:=fun U hU=>by
   have h1:=hU.keep hd id;exact⟨by simp[World.cell?,h1],by simp[World.frozen?,h1]⟩
  have UX:=O c0;clear c0;cases ht:oo v with
  |true =>
   have TQ:Bj true v=fX v:=by unfold Bj;rw[ht];rfl
   have ZA:Bk true v=false:=by unfold Bk;rw[ht];rfl
   have hql:=Lf v;have z4:(bA (fX v)).size=(fX v).length:=rfl;go_enter func99,ntmps99;go_wp2_with fail
   refine(Gc (bA v) w ab).mono ?_;rintro e w1⟨rfl,dk⟩;rw[fZ,az ht];obtain⟨k0,k1⟩:=UX.o w1 dk;obtain⟨w2,eG⟩:∃w2,w2=w1.setCell ⟨d,0,none⟩ (.bool bad):=⟨_,rfl⟩;have zt:=dk.keep hd id;have td:zO w2 d bad:=by rw[eG];exact cq zt 0 (.bool bad)
   have dE:Fr (one d) w1 w2:=by rw[eG];exact(ae (one d) w1).setCell (p:=⟨d,0,none⟩) (fun _=>rfl) _
   have kJ:wG B b l w2:=(h.fN dk).off dE (fun e=>hne e.symm) (fun g cur fz hg e=>by have e':g=d:=e;subst e';rw[zt]at hg;injection hg with hg;injection hg with _ hg;exact absurd hg ag);have qj:=O (show Below B w w2 from((oO dk).mono hB).trans (by rw[eG];exact(Below.refl B w1).setCell (p:=⟨d,0,none⟩) Nx _));have nP:=O eG;clear eG dk dE zt;have hee:(⟨(fX v).toArray⟩:aj)=bA (fX v):=rfl;rw[hee]
   cases bad with
   |true =>
    go_wp2_with fail
    rw[<-nP.o];refine(wH B b l w2 kJ).mono ?_;rintro e wl⟨rfl,rfl⟩;by_cases h7:7<l.length
    ·have Zz:(7:Int)<(l.length:Int):=ab;go_wp2_with fail
     refine(ew B b l ⟨#[44,32]⟩ w2 kJ (by show l.length+2<=_;omega) (aE hB (qj.o).size)).mono ?_;rintro e wx⟨rfl,qB,Gr,DH⟩;have Ru:=(td).NS DH hne;have ui:=O ((qj.o).trans Gr);clear DH Gr;go_wp2_with fail
     rw[show bA nm++⟨#[61]⟩++bA (fX v)=bA (nm++61 :: (fX v))from Ym nm (fX v)];refine(ew B b _ (bA (nm++61 :: (fX v))) wx qB (by show(l++[44,32]).length+(nm++61 :: (fX v)).length<=_;simp;omega) (aE hB ui.o.size)).mono ?_;rintro e wy⟨rfl,rj,GC,IM⟩;have IP:=Ru.NS IM hne;go_wp2;go_end0;refine⟨rfl,?_,(by rw[ZA];exact IP),ui.o.trans GC⟩
     have e:qO l nm (fX v)=l++(⟨#[44,32]⟩:aj).data.toList++(bA (nm++61 :: (fX v))).data.toList:=by unfold qO;rw[az h7,fZ];simp
     rw[TQ,e];exact rj
    ·have Zz:¬(7:Int)<(l.length:Int):=ab;go_wp2_with fail
     rw[show bA nm++⟨#[61]⟩++bA (fX v)=bA (nm++61 :: (fX v))from Ym nm (fX v)];refine(ew B b l (bA (nm++61 :: (fX v))) w2 kJ (by show l.length+(nm++61 :: (fX v)).length<=_;simp;omega) (aE hB (qj.o).size)).mono ?_;rintro e wy⟨rfl,rj,GC,IM⟩;have IP:=(td).NS IM hne;go_wp2;go_end0;refine⟨rfl,?_,(by rw[ZA];exact IP),(qj.o).trans GC⟩
     have e:qO l nm (fX v)=l++(bA (nm++61 :: (fX v))).data.toList:=by unfold qO;rw[aq h7,fZ];simp
     rw[TQ,e];exact rj
   |false =>
    go_wp2_with fail
    rw[<-nP.o];refine(wH B b l w2 kJ).mono ?_;rintro e wl⟨rfl,rfl⟩;by_cases h7:7<l.length
    ·have Zz:(7:Int)<(l.length:Int):=ab;go_wp2_with fail
     refine(ew B b l ⟨#[44,32]⟩ w2 kJ (by show l.length+2<=_;omega) (aE hB (qj.o).size)).mono ?_;rintro e wx⟨rfl,qB,Gr,DH⟩;have Ru:=(td).NS DH hne;have ui:=O ((qj.o).trans Gr);clear DH Gr;go_wp2_with fail
     rw[show bA nm++⟨#[61]⟩++bA (fX v)=bA (nm++61 :: (fX v))from Ym nm (fX v)];refine(ew B b _ (bA (nm++61 :: (fX v))) wx qB (by show(l++[44,32]).length+(nm++61 :: (fX v)).length<=_;simp;omega) (aE hB ui.o.size)).mono ?_;rintro e wy⟨rfl,rj,GC,IM⟩;have IP:=Ru.NS IM hne;go_wp2;go_end0;refine⟨rfl,?_,(by rw[ZA];exact IP),ui.o.trans GC⟩
     have e:qO l nm (fX v)=l++(⟨#[44,32]⟩:aj).data.toList++(bA (nm++61 :: (fX v))).data.toList:=by unfold qO;rw[az h7,fZ];simp
     rw[TQ,e];exact rj
    ·have Zz:¬(7:Int)<(l.length:Int):=ab;go_wp2_with fail
     rw[show bA nm++⟨#[61]⟩++bA (fX v)=bA (nm++61 :: (fX v))from Ym nm (fX v)];refine(ew B b l (bA (nm++61 :: (fX v))) w2 kJ (by show l.length+(nm++61 :: (fX v)).length<=_;simp;omega) (aE hB (qj.o).size)).mono ?_;rintro e wy⟨rfl,rj,GC,IM⟩;have IP:=(td).NS IM hne;go_wp2;go_end0;refine⟨rfl,?_,(by rw[ZA];exact IP),(qj.o).trans GC⟩
     have e:qO l nm (fX v)=l++(bA (nm++61 :: (fX v))).data.toList:=by unfold qO;rw[aq h7,fZ];simp
     rw[TQ,e];exact rj
  |false =>
   have TQ:Bj true v=[]:=by unfold Bj;rw[ht];rfl
   have ZA:Bk true v=true:=by unfold Bk;rw[ht];rfl
   have z4:(bA []).size=0:=rfl;go_enter func99,ntmps99;go_wp2_with fail
   refine(Gc (bA v) w ab).mono ?_;rintro e w1⟨rfl,dk⟩;rw[fZ,ht];simp only[cL,fa];obtain⟨k0,k1⟩:=UX.o w1 dk;obtain⟨w2,eG⟩:∃w2,w2=w1.setCell ⟨d,0,none⟩ (.bool true):=⟨_,rfl⟩;have zt:=dk.keep hd id;have td:zO w2 d true:=by rw[eG];exact cq zt 0 (.bool true)
   have dE:Fr (one d) w1 w2:=by rw[eG];exact(ae (one d) w1).setCell (p:=⟨d,0,none⟩) (fun _=>rfl) _
   have kJ:wG B b l w2:=(h.fN dk).off dE (fun e=>hne e.symm) (fun g cur fz hg e=>by have e':g=d:=e;subst e';rw[zt]at hg;injection hg with hg;injection hg with _ hg;exact absurd hg ag);have qj:=O (show Below B w w2 from((oO dk).mono hB).trans (by rw[eG];exact(Below.refl B w1).setCell (p:=⟨d,0,none⟩) Nx _));have nP:=O eG;clear eG dk dE zt;have hee:(⟨#[]⟩:aj)=bA []:=rfl;rw[hee];cases bad with
   |true =>
    go_wp2_with fail
    rw[<-nP.o];refine(wH B b l w2 kJ).mono ?_;rintro e wl⟨rfl,rfl⟩;by_cases h7:7<l.length
    ·have Zz:(7:Int)<(l.length:Int):=ab;go_wp2_with fail
     refine(ew B b l ⟨#[44,32]⟩ w2 kJ (by show l.length+2<=_;omega) (aE hB (qj.o).size)).mono ?_;rintro e wx⟨rfl,qB,Gr,DH⟩;have Ru:=(td).NS DH hne;have ui:=O ((qj.o).trans Gr);clear DH Gr;go_wp2_with fail
     rw[show bA nm++⟨#[61]⟩++bA []=bA (nm++61 :: [])from Ym nm []];refine(ew B b _ (bA (nm++61 :: [])) wx qB (by show(l++[44,32]).length+(nm++61 :: []).length<=_;simp;omega) (aE hB ui.o.size)).mono ?_;rintro e wy⟨rfl,rj,GC,IM⟩;have IP:=Ru.NS IM hne;go_wp2;go_end0;refine⟨rfl,?_,(by rw[ZA,kA];exact IP),ui.o.trans GC⟩
     have e:qO l nm []=l++(⟨#[44,32]⟩:aj).data.toList++(bA (nm++61 :: [])).data.toList:=by unfold qO;rw[az h7,fZ];simp
     rw[TQ,e];exact rj
    ·have Zz:¬(7:Int)<(l.length:Int):=ab;go_wp2_with fail
     rw[show bA nm++⟨#[61]⟩++bA []=bA (nm++61 :: [])from Ym nm []];refine(ew B b l (bA (nm++61 :: [])) w2 kJ (by show l.length+(nm++61 :: []).length<=_;simp;omega) (aE hB (qj.o).size)).mono ?_;rintro e wy⟨rfl,rj,GC,IM⟩;have IP:=(td).NS IM hne;go_wp2;go_end0;refine⟨rfl,?_,(by rw[ZA,kA];exact IP),(qj.o).trans GC⟩;have e:qO l nm []=l++(bA (nm++61 :: [])).data.toList:=by unfold qO;rw[aq h7,fZ];simp
     rw[TQ,e];exact rj
   |false =>
    go_wp2_with fail
    rw[<-nP.o];refine(wH B b l w2 kJ).mono ?_;rintro e wl⟨rfl,rfl⟩;by_cases h7:7<l.length
    ·have Zz:(7:Int)<(l.length:Int):=ab;go_wp2_with fail
     refine(ew B b l ⟨#[44,32]⟩ w2 kJ (by show l.length+2<=_;omega) (aE hB (qj.o).size)).mono ?_;rintro e wx⟨rfl,qB,Gr,DH⟩;have Ru:=(td).NS DH hne;have ui:=O ((qj.o).trans Gr);clear DH Gr;go_wp2_with fail
     rw[show bA nm++⟨#[61]⟩++bA []=bA (nm++61 :: [])from Ym nm []];refine(ew B b _ (bA (nm++61 :: [])) wx qB (by show(l++[44,32]).length+(nm++61 :: []).length<=_;simp;omega) (aE hB ui.o.size)).mono ?_;rintro e wy⟨rfl,rj,GC,IM⟩;have IP:=Ru.NS IM hne;go_wp2;go_end0;refine⟨rfl,?_,(by rw[ZA,kA];exact IP),ui.o.trans GC⟩
     have e:qO l nm []=l++(⟨#[44,32]⟩:aj).data.toList++(bA (nm++61 :: [])).data.toList:=by unfold qO;rw[az h7,fZ];simp
     rw[TQ,e];exact rj
    ·have Zz:¬(7:Int)<(l.length:Int):=ab;go_wp2_with fail
     rw[show bA nm++⟨#[61]⟩++bA []=bA (nm++61 :: [])from Ym nm []];refine(ew B b l (bA (nm++61 :: [])) w2 kJ (by show l.length+(nm++61 :: []).length<=_;simp;omega) (aE hB (qj.o).size)).mono ?_;rintro e wy⟨rfl,rj,GC,IM⟩;have IP:=(td).NS IM hne;go_wp2;go_end0;refine⟨rfl,?_,(by rw[ZA,kA];exact IP),(qj.o).trans GC⟩;have e:qO l nm []=l++(bA (nm++61 :: [])).data.toList:=by unfold qO;rw[aq h7,fZ];simp
     rw[TQ,e];exact rj
def aQ.used(g:aQ D):aQ D:={g with count:=g.count+1}
def vV(gs:List (aQ bE))(o:gG)(proxy:Bool)(path:aj):List (aQ bE)×Except Nat (aQ bE) :=
 if 0<=uo gs o proxy path then
  match gs[(uo gs o proxy path).toNat]? with
  |some g =>
   let l:=gs.take (uo gs o proxy path).toNat++gs.drop ((uo gs o proxy path).toNat+1)
   if 4294967295<=g.count then(l,.error 12)else(l++[g.used],.ok g.used)
  |none=>(gs,.error 8)
 else(gs,.error 8)
def rz(base:Nat)(w:World)(b:Nat)(gv wv:Value)(ws:List (bK bE))(u:List (aQ bE)×Except Nat (aQ bE))(e:Ending)(w':World):Prop :=
 kM base w b gv wv u.1 ws w'/\match u.2 with
 | .error n=>e=.returned (.tuple #[.agg eY,.iface 105 (.int .i64 n)])
 | .ok g=>∃r:aQ Value,e=.returned (.tuple #[.agg r.cells.toArray,.nilIface])/\r.Reads (dx base w') g/\∀u∈r.cells,u.oneCell'=true
theorem kM.same{base:Nat}{gv wv:Value}{gs:List (aQ bE)}{ws:List (bK bE)}(h:dH base w b gv wv gs ws)(hf:Fr aS w w'):kM base w b gv wv gs ws w' :=
 ⟨gv,wv,h.dm hf,hf.mono (fun _ _ h=>absurd h id),fun _ hk=>Or.inl hk⟩
theorem Of{base:Nat}{w5 w6:World}{b gg cap i n:Nat}{wv:Value}{ls:List (aQ bE)}{ws:List (bK bE)}{rs:List (aQ Value)}(h5:dH base w5 b (.slice (some ⟨gg,0,none⟩) ls.length cap) wv ls ws)
  (hb:lq (aQ.Reads (dx base w5)) rs ls)(zN:OwnRows base 114 16 w6 (.slice (some ⟨gg,0,none⟩) (i+(ls.length-n)) cap) ((rs.map aQ.cells).take i++(rs.map aQ.cells).drop n))(nL:Fr (one gg) w5 w6) :
  dH base (w6.setCell ⟨b,0,none⟩ (.slice (some ⟨gg,0,none⟩) (i+(ls.length-n)) cap)) b (.slice (some ⟨gg,0,none⟩) (i+(ls.length-n)) cap) wv (ls.take i++ls.drop n) ws /\
  Fr (dy b (.slice (some ⟨gg,0,none⟩) ls.length cap) wv) w5 (w6.setCell ⟨b,0,none⟩ (.slice (some ⟨gg,0,none⟩) (i+(ls.length-n)) cap))/\w6.cell? ⟨b,0,none⟩=some (.slice (some ⟨gg,0,none⟩) ls.length cap)/\w6.frozen? ⟨b,0,none⟩=false:=by
 have lD:=h5.low;have ef:∀k,one gg k->own (.slice (some ⟨gg,0,none⟩) ls.length cap) k:=fun k hk=>by have e:k=gg:=hk;rw[e];rfl
 have nd:sG base w5 (one gg):=fun k hk hl=>h5.off k (Or.inr (Or.inl (ef k hk))) hl;have tH:=nL.keep h5.eN (fun h=>h5.gb (ef _ h));have Ae:ks base w6 wv ws:=h5.waits.fr nL nd (fun k hk hg=>h5.gw (ef _ hg) hk);have hm:=hb.mono (fun _ _ h=>h.mono (fun _ _ h=>h.fr nL nd));have hg6:gy base w6 (.slice (some ⟨gg,0,none⟩) (i+(ls.length-n)) cap) (ls.take i++ls.drop n):=by
  refine⟨rs.take i++rs.drop n,?_,(hm.take i).app (hm.drop n)⟩;rw[bI,List.map_take,List.map_drop];exact zN
 have UU:Fr (dy b (.slice (some ⟨gg,0,none⟩) ls.length cap) wv) w5 w6:=nL.mono (fun k _ hk=>Or.inr (Or.inl (ef k hk)));exact⟨nS lD tH hg6 Ae,UU.setCell (p:=⟨b,0,none⟩) (fun _=>Or.inl rfl) _,by simp[World.cell?,tH],by simp[World.frozen?,tH]⟩
theorem Z4(base:Nat)(w:World)(b:Nat)(gv wv:Value)(gs:List (aQ bE))(ws:List (bK bE))(o:gG)(proxy:Bool)(path:aj)(h:dH base w b gv wv gs ws)(Oa:gs.length<34359738368)(hcn:∀g∈gs,0<=g.count) :
  aB 48 #[.pointer (some ⟨b,0,none⟩),.agg o.cells.toArray,.bool proxy,.string path] w (rz base w b gv wv ws (vV gs o proxy path)):=by
 unfold gG.cells;have sS:=h.lt;have lD:=h.low;have pq:Fr aS w _:=((ae aS w).alloc (.cells #[.bool o.aG,.string o.host,.int .i64 o.port] 32)).alloc (.cells eY 114);have b1:=aC (w.alloc (.cells #[.bool o.aG,.string o.host,.int .i64 o.port] 32)) (.cells eY 114);rw[show(w.alloc (.cells #[.bool o.aG,.string o.host,.int .i64 o.port] 32)).heap.size=w.heap.size+1 from aR]at b1;have h1:=h.dm pq
 have acr:=O (Vv base _ b gv wv gs ws o proxy path h1);have QC:=O b1;clear b1;go_enter func48,ntmps48;go_wp2_with fail
 generalize (w.alloc (.cells _ 32)).alloc _=W at *
 refine acr.o.mono ?_;rintro e u1⟨rfl,dk⟩;have Vx:=O (dk.keep QC.o id);have HF:=pq.trans dk;have h2:=h1.dm dk;clear acr QC pq dk h1;have yS:w.heap.size+1<u1.heap.size:=bq Vx.o;rcases Vz gs o proxy path with ⟨k,hk,he⟩|he
 ·obtain⟨bk,c,dE,tu,r,ef,hr,hcell⟩:=h2.bG.at hk;subst dE;unfold maxLen at tu;have d0:=h2.c0;obtain⟨x,hx⟩:∃x,x=r.cells:=⟨_,rfl⟩;have lM:x.length=16:=by rw[hx];rfl
  have jx:=fun W=>run_storeCells_new (P:=prog) W 114 #[.bool false,.string ⟨#[]⟩,.int .i64 0,.bool false,.string ⟨#[]⟩,.string ⟨#[]⟩,.int .i64 0,.string ⟨#[]⟩,.string ⟨#[]⟩,.string ⟨#[]⟩,.bool false,.string ⟨#[]⟩,.bool false,.slice none 0 0,.int .i64 0,.slice none 0 0] x (by rw[lM];rfl) (by rw[hx];exact ef);have Ed:=O (show(prog.info? 114).map (·.size)=some x.length by rw[lM];kernel_rfl)
  have Og:r.count=gs[k].count:=hr.2.2.2.2.2.1;have hc0:0<=r.count:=by rw[Og];exact hcn _ (bO hk)
  have HX:=O hx;have HE:=O he;rw[<-hx]at hcell;have hub:b<u1.heap.size:=h2.lt;have gX:Fr aS u1 (u1.alloc (.cells x.toArray 114)):=(ae aS u1).alloc _;have qB:(u1.alloc (.cells x.toArray 114)).heap[u1.heap.size]?=some (.cells x.toArray 114 (0,0)):=aC _ _;have h3:=h2.dm gX;have rP:=hr.mono (fun _ _ h=>h.dm gX);obtain⟨rs,ho,hb⟩:=h3.bG;have vN:=O (show(rs.map aQ.cells).length=gs.length by rw[ai,hb.len])
  have qV:=O (GW base bk c k (k+1) (rs.map aQ.cells) _ (by rw[vN.o];exact ho) ab (by rw[vN.o];omega));rw[vN.o,show((k+1:Nat):Int)=(k:Int)+1 from ab]at qV;have aow:bk<u1.heap.size:=by
   obtain⟨cc,e⟩:=h2.ur (k:=bk) rfl;exact bq e
  have ui:=O qB;have HCO:=O Og;have VD:=O rP;have xJ:=O ef;rw[he];clear hx he qB Og hr rP ef h2;go_wp2_with (first|((with_reducible refine dr 27 ?_);refine aY rfl 114 (.tmp 26) rfl bk (k*16) rfl x _ hcell underlying114 rfl Ed.o ?_)|fail)
  clear jx hcell d0;have iL:base<=u1.heap.size:=ab;have R0:Fr aS w (u1.alloc (.cells x.toArray 114)):=HF.alloc _;have Gr:u1.heap.size<(u1.alloc (.cells x.toArray 114)).heap.size:=aR;have b1v:=O (gX.keep Vx.o id);generalize u1.alloc (.cells x.toArray 114)=V at *
  refine qV.o.mono ?_;rintro e w2⟨rfl,rk,dE⟩;obtain⟨h4,TZ,d2,e2⟩:=Of h3 hb (by exact rk) dE;obtain⟨l,hl⟩:∃l,l=gs.take k++gs.drop (k+1):=⟨_,rfl⟩;have hm:k+(gs.length-(k+1))=l.length:=by rw[hl,aK,aJ,bM];omega
  have hlen:l.length<=gs.length:=ab;rw[<-hl]at h4;rw[hm]at h4 TZ ⊢;have HL:=O hl;clear hl hm;have LJ:sG base V (own (.slice (some ⟨bk,0,none⟩) gs.length c)):=ho.off (ay _) ag;have LK:sG base V (one bk):=fun j hj hl=>LJ j (by have e:j=bk:=hj;rw[e];rfl) hl;have Af:=dE.keep ui.o (fun h=>by have e:u1.heap.size=bk:=h;omega)
  have VE:=dE.keep b1v.o (fun hh=>by have e:w.heap.size+1=bk:=hh;obtain⟨cc,e2⟩:=h.ur (k:=bk) rfl;have:=bq e2;omega);have wh:=VD.o.mono (fun _ _ h=>h.fr dE LK);have c14:w2.cell? ⟨u1.heap.size,14,none⟩=some (.int .i64 r.count):=by
   have e:=HX.o;simp only[World.cell?,Af,e];rfl
  have f14:w2.frozen? ⟨u1.heap.size,14,none⟩=false:=by simp[World.frozen?,Af]
  have VF:w2.heap[b]?=some (.cells #[.slice (some ⟨bk,0,none⟩) gs.length c,wv] 89 (0,0)):=dE.keep h3.eN (fun h=>h3.gb (by have e:b=bk:=h;rw[e];rfl));have kC:Fr (one b) w2 (w2.setCell ⟨b,0,none⟩ (.slice (some ⟨bk,0,none⟩) l.length c)):=(ae (one b) w2).setCell (p:=⟨b,0,none⟩) (fun _=>rfl) _;have VG:sG base w2 (one b):=by
   rintro j rfl _;exact⟨lD,fun cc f e=>by rw[VF]at e;cases e⟩
  have Eo:=kC.keep Af (fun h=>by have e:u1.heap.size=b:=h;omega);have R2:=kC.keep VE (fun h=>by have e:w.heap.size+1=b:=h;omega);have yb:=wh.mono (fun _ _ h=>h.fr kC VG);have hFw:Fr (dy b (.slice (some ⟨bk,0,none⟩) gs.length c) wv) w (w2.setCell ⟨b,0,none⟩ (.slice (some ⟨bk,0,none⟩) l.length c)):=gl (R0.mono (fun _ _ h=>absurd h id)) TZ (fun _ _ h=>h)
  have lA:∀j,dy b (.slice (some ⟨bk,0,none⟩) l.length c) wv j->dy b (.slice (some ⟨bk,0,none⟩) gs.length c) wv j:=fun j hj=>by
   rcases hj with h|h|h
   ·exact Or.inl h
   ·exact Or.inr (Or.inl h)
   ·exact Or.inr (Or.inr h)
  have H4:=O h4;have rU:=O hFw
  try clear qV
  try clear rk
  try clear ho
  try clear hb
  try clear VF
  try clear kC
  try clear VG
  try clear Af
  try clear VE
  try clear wh
  try clear TZ
  try clear LK
  try clear LJ
  try clear h3
  try clear R0
  try clear TZ
  try clear ui
  try clear VD
  try clear b1v
  try clear Vx
  try clear HF
  try clear h4
  try clear hFw
  have aem:=O Eo;have VH:=O R2;clear Eo R2;by_cases acs:4294967295<=r.count
  ·have hu:=O (show vV gs o proxy path=(l,.error 12)by
    rw[HL.o];unfold vV;rw[HE.o,az ab,show((k:Int)).toNat=k from aR,List.getElem?_eq_getElem hk];simp only;rw[<-HCO.o,az acs])
   go_wp2_with (first|((with_reducible refine cZ 114 ?_);refine aF rfl 114 (.tmp 8) (.tmp 42) rfl (w.heap.size+1) eY rfl rfl _ eY VH.o af rfl yN ?_)|fail)
   refine aW (results_cell_tmp bD _ _ (w.heap.size+1) 114 eY (0,0) _ rfl (a_ _ (w.heap.size+1) _ _ _ _ VH.o) underlying114 rfl af) rfl ?_;unfold rz;rw[hu.o];have hFr:Fr (one (w.heap.size+1)) (w2.setCell ⟨b,0,none⟩ (.slice (some ⟨bk,0,none⟩) l.length c)) ((w2.setCell ⟨b,0,none⟩ (.slice (some ⟨bk,0,none⟩) l.length c)).setRow (w.heap.size+1) eY):=(ae (one (w.heap.size+1)) _).setRow (fun _=>rfl) _
   have hne:∀j,dy b (.slice (some ⟨bk,0,none⟩) gs.length c) wv j->j<w.heap.size:=fun j hj=>by
    rcases hj with hj|hj|hj
    ·omega
    ·obtain⟨cc,e⟩:=h.ur hj;exact bq e
    ·obtain⟨cc,e⟩:=h.wW hj;exact bq e
   refine⟨⟨_,_,H4.o.fr hFr ?_ ?_ ?_ ?_,rU.o.step hFr ?_,fun j hj=>Or.inl (lA j hj)⟩,rfl⟩
   ·rintro j rfl _;exact⟨ab,fun cc f e=>by rw[VH.o]at e;cases e⟩
   ·intro hh;have e:b=w.heap.size+1:=hh;omega
   ·intro j hj hh;have e:j=w.heap.size+1:=hh;have:=hne j (lA j (Or.inr (Or.inl hj)));omega
   ·intro j hj hh;have e:j=w.heap.size+1:=hh;have:=hne j (lA j (Or.inr (Or.inr hj)));omega
   ·intro j hj hh;have e:j=w.heap.size+1:=hh;omega
  ·have hu:=O (show vV gs o proxy path=(l++[gs[k].used],.ok gs[k].used)by
    rw[HL.o];unfold vV;rw[HE.o,az ab,show((k:Int)).toNat=k from aR,List.getElem?_eq_getElem hk];simp only;rw[<-HCO.o,aq acs])
   have hne:∀j,dy b (.slice (some ⟨bk,0,none⟩) gs.length c) wv j->j<w.heap.size:=fun j hj=>by
    rcases hj with hj|hj|hj
    ·omega
    ·obtain⟨cc,e⟩:=h.ur hj;exact bq e
    ·obtain⟨cc,e⟩:=h.wW hj;exact bq e
   go_wp2_with fail
   clear d2 e2 c14 f14;generalize w2.setCell ⟨b,0,none⟩ (.slice (some ⟨bk,0,none⟩) l.length c)=w3 at *
   have aiK:(w3.setCell ⟨u1.heap.size,14,none⟩ (.int .i64 (r.count+1))).heap[u1.heap.size]?=some (.cells r.used.cells.toArray 114 (0,0)):=by
    have e:=aem.o;rw[HX.o]at e;exact cq e 14 _
   have Kw:Fr (one u1.heap.size) w3 (w3.setCell ⟨u1.heap.size,14,none⟩ (.int .i64 (r.count+1))):=(ae (one u1.heap.size) w3).setCell (p:=⟨u1.heap.size,14,none⟩) (fun _=>rfl) _;have aen:sG base w3 (one u1.heap.size):=by
    rintro j rfl _;exact⟨iL,fun cc f e=>by rw[aem.o]at e;cases e⟩
   have qt:¬dy b (.slice (some ⟨bk,0,none⟩) l.length c) wv u1.heap.size:=fun hh=>by
    have:=hne _ (lA _ hh);omega
   have h5:=H4.o.fr Kw aen (fun hh=>by have e:b=u1.heap.size:=hh;omega) (fun j hj hh=>by have e:j=u1.heap.size:=hh;subst e;exact qt (Or.inr (Or.inl hj))) (fun j hj hh=>by have e:j=u1.heap.size:=hh;subst e;exact qt (Or.inr (Or.inr hj)));have J1:aQ.Reads (dx base (w3.setCell ⟨u1.heap.size,14,none⟩ (.int .i64 (r.count+1)))) r.used gs[k].used:=by
    obtain⟨q1,q2,q3,q4,q5,q6,q7⟩:=yb.mono (fun _ _ h=>h.fr Kw aen);exact⟨q1,q2,q3,q4,q5,by show r.count+1=gs[k].count+1;rw[q6],q7⟩
   have aiL:=O (Kw.keep VH.o (fun hh=>by have e:w.heap.size+1=u1.heap.size:=hh;omega));have aeo:Fr (dy b (.slice (some ⟨bk,0,none⟩) gs.length c) wv) w (w3.setCell ⟨u1.heap.size,14,none⟩ (.int .i64 (r.count+1))):=rU.o.step Kw (fun j hj hh=>by have e:j=u1.heap.size:=hh;omega);have acu:∀u∈r.used.cells,u.oneCell'=true:=by
    intro u hu;simp only[aQ.cells,aQ.used,bC,cA,dY]at hu;have ho:=xJ.o;simp only[aQ.cells,bC,cA,dY]at ho;rcases hu with rfl|rfl|rfl|rfl|rfl|rfl|rfl|rfl|rfl|rfl|rfl|rfl|rfl|rfl|rfl|rfl<;>first|rfl|exact ho _ aR
   have acv:=O acu;have aep:=O aiK;have J6:=O J1;have avp:w.heap.size<=w3.heap.size:=rU.o.size;clear acu yb Kw aen aem VH H4 rU aiK J1;generalize w3.setCell ⟨u1.heap.size,14,none⟩ (.int .i64 (r.count+1))=w4 at *
   have oH:∀i u,r.used.cells[i]?=some u->w4.cell? ⟨u1.heap.size,i,none⟩=some u:=fun i u hu=>by
    simp only[World.cell?,aep.o];simpa using hu
   have x0:=oH 0 _ rfl;have x1:=oH 1 _ rfl;have x2:=oH 2 _ rfl;have x3:=oH 3 _ rfl;have x4:=oH 4 _ rfl;have x5:=oH 5 _ rfl;have x6:=oH 6 _ rfl;have x7:=oH 7 _ rfl;have x8:=oH 8 _ rfl;have x9:=oH 9 _ rfl;have Z2:=oH 10 _ rfl;have Z3:=oH 11 _ rfl;have x12:=oH 12 _ rfl;have x13:=oH 13 _ rfl;have x14:=oH 14 _ rfl;have x15:=oH 15 _ rfl;have d0:=h5.c0;have e0:=h5.free 0;have vQ:b<w4.heap.size:=h5.lt
   have Zr:u1.heap.size<w4.heap.size:=bq aep.o;obtain⟨i0,qN,pD,ll,lF⟩:=info_parts yM;obtain⟨rs5,Nh,FT⟩:=h5.bG;have HO5:=O Nh;have HB5:=O FT;have LL:w4.ownsRow base 114 16 (.slice (some ⟨bk,0,none⟩) l.length c) l.length (rs5.map aQ.cells).flatten:=by
    have hh:=Nh.2;rw[ai,FT.len]at hh;exact hh
   have AY:¬own (.slice (some ⟨bk,0,none⟩) l.length c) b:=h5.gb;clear Nh FT oH;simp only[aQ.used]at x0 x1 x2 x3 x4 x5 x6 x7 x8 x9 Z2 Z3 x12 x13 x14 x15
   go_region_law ((with_reducible refine mX ⟨some 55,_,_,_,_,_⟩ ?_)
                  refine step_append_lies _ bD _ _ _ bD base 114 i0 _ 16 216 underlying77 qN pD ll lF rfl ab (.slice (some ⟨bk,0,none⟩) l.length c) l.length _ bD (by repeat(first|exact LL|apply World.ownsRow.alloc|apply World.ownsRow.drew)) ⟨w4.heap.size,0,none⟩ 1 1 r.used.cells bD bD (kY w4 r.used.cells _) acv.o ab ft ab bH (w4.heap.size+1) aR ?_
                  intro gg cap w5 wM jJ dS adM
                  have rq:Fr (own (.slice (some ⟨bk,0,none⟩) l.length c)) w4 w5:=fy (by repeat(first|exact ae _ _|apply aA|apply bB)) jJ (fun _ hk _=>hk)
                  have k4:w5.cell? ⟨b,0,none⟩=some (.slice (some ⟨bk,0,none⟩) l.length c):=(rq.cell (p:=⟨b,0,none⟩) vQ AY).trans d0
                  have e4:w5.frozen? ⟨b,0,none⟩=false:=(rq.frozen (p:=⟨b,0,none⟩) vQ AY).trans e0)
   all_goals
    obtain⟨h6,hF6,FR⟩:=GY (m:=gs[k].used) h5 HO5.o HB5.o (ae _ _) J6.o acv.o rq wM (dS.imp id (fun h=>ab));have hnr:¬dy b (.slice (some ⟨bk,0,none⟩) l.length c) wv (w.heap.size+1):=fun hh=>by have:=hne _ (lA _ hh);omega
    have aiN:=O (hF6.keep aep.o qt);have aoy:=O (hF6.keep aiL.o hnr);have TN:=J6.o.mono (fun _ _ h=>h.fr hF6 h5.off);have aoz:=O (aeo.step hF6 (fun j hj hb=>lA j hb));have Z5:∀j,dy b (.slice (some ⟨gg,0,none⟩) (l.length+1) cap) wv j->dy b (.slice (some ⟨bk,0,none⟩) gs.length c) wv j\/w.heap.size<=j:=fun j hj=>by
     rcases FR j hj with h|h
     ·exact Or.inl (lA j h)
     ·exact Or.inr (by have:=aeo.size;omega)
    have H6:=O h6;have Bq:base<=(w5.setCell ⟨b,0,none⟩ (.slice (some ⟨gg,0,none⟩) (l.length+1) cap)).heap.size:=by have:=h6.lt;omega
    have fH:=O (uU base r.used gs[k].used _ Bq TN);clear x0 x1 x2 x3 x4 x5 x6 x7 x8 x9 Z2 Z3 x12 x13 x14 x15 d0 e0 k4 e4 jJ wM LL h6 hF6 TN rq h5 Bq;generalize w5.setCell ⟨b,0,none⟩ (.slice (some ⟨gg,0,none⟩) (l.length+1) cap)=w6 at *
    obtain⟨y,hy⟩:∃y,y=r.used.cells:=⟨_,rfl⟩;have Du:y.length=16:=by rw[hy];rfl
    rw[<-hy]at aiN fH;have hyi:=O (show(prog.info? 114).map (·.size)=some y.toArray.size by rw[aX,Du];kernel_rfl);clear hy;go_wp2_with (first|((with_reducible refine dr 58 ?_);refine aI rfl 114 (.tmp 11) rfl u1.heap.size rfl _ y.toArray (0,0) _ aiN.o underlying114 rfl hyi.o ?_)|fail)
    refine fH.o.mono ?_;intro e w7 Ob;obtain⟨r7,rfl,TN,VI,nO⟩:=Ob;have b7:=O (nO.keep aoy.o id);have h7:=H6.o.dm nO;have TY:=aoz.o.trans (nO.mono (fun _ _ h=>absurd h id));have zj:(prog.info? 114).map (·.size)=some r7.cells.toArray.size:=af;obtain⟨z,hz⟩:∃z,z=r7.cells:=⟨_,rfl⟩;have HZ:=O hz;have aiO:=O VI;rw[<-hz]at zj VI ⊢;have ll:=O (b_ VI);have Yl:=O (show eY.size=z.toArray.size by rw[hz];rfl)
    clear hz fH;go_wp2_with (first|((with_reducible refine cZ 114 ?_);refine aF rfl 114 (.tmp 8) (.tmp 59) rfl (w.heap.size+1) z.toArray rfl rfl _ eY b7.o zj Yl.o ll.o ?_)|fail)
    have rZ:sG base w7 (one (w.heap.size+1)):=by
     rintro j rfl hj;exact⟨ab,fun c f e=>by rw[b7.o]at e;cases e⟩
    have kR:Fr (one (w.heap.size+1)) w7 (w7.setRow (w.heap.size+1) z.toArray):=(ae (one (w.heap.size+1)) w7).setRow (fun _=>rfl) _;refine aW (results_cell_tmp bD _ _ (w.heap.size+1) 114 z.toArray (0,0) _ rfl (a_ w7 (w.heap.size+1) _ _ _ _ b7.o) underlying114 rfl zj) rfl ?_;have aer:¬dy b (.slice (some ⟨gg,0,none⟩) (l.length+1) cap) wv (w.heap.size+1):=fun hh=>by
     have hk7:∃cc t f,w7.heap[w.heap.size+1]?=some (.cells cc t f):=⟨_,_,_,b7.o⟩;rcases FR _ hh with h8|h8
     ·exact hnr h8
     ·have:=aeo.size;have:=bq aiL.o;omega
    unfold rz;rw[hu.o];rw[HZ.o]at *
    refine⟨⟨_,_,h7.fr kR rZ (fun hh=>aer (Or.inl (by have e:b=w.heap.size+1:=hh;rw[e]))) (fun j hj hh=>aer (Or.inr (Or.inl (by have e:j=w.heap.size+1:=hh;rw[<-e];exact hj)))) (fun j hj hh=>aer (Or.inr (Or.inr (by have e:j=w.heap.size+1:=hh;rw[<-e];exact hj)))),TY.step kR (fun j hj hh=>by have e:j=w.heap.size+1:=hh;omega),Z5⟩,r7,rfl,TN.mono (fun _ _ h=>h.fr kR rZ),aiO.o⟩
 ·have hu:=O (show vV gs o proxy path=(gs,.error 8)by unfold vV;rw[he];rfl);rw[he];have hp:=kM.same h (HF.setRow (g:=w.heap.size+1) (fun h=>absurd h ab) eY);clear h2 h;go_wp2_with (first|((with_reducible refine cZ 114 ?_);refine aF rfl 114 (.tmp 8) (.tmp 19) rfl (w.heap.size+1) eY rfl rfl _ eY Vx.o af rfl yN ?_)|fail)
  refine aW (results_cell_tmp bD _ _ (w.heap.size+1) 114 eY (0,0) _ rfl (a_ u1 (w.heap.size+1) _ _ _ _ Vx.o) underlying114 rfl af) rfl ?_;unfold rz;rw[hu.o];exact⟨hp,rfl⟩
