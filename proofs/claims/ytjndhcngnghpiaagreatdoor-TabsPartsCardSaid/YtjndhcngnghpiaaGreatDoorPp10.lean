/- Lemmas for the law's walk. -/
import Derived.Test.YtjndhcngnghpiaaGreatDoorPp9
set_option maxRecDepth 100000
set_option maxHeartbeats 16000000
set_option linter.unusedSimpArgs false
namespace Go.Proofs.YtjndhcngnghpiaaGreatDoor
open Go.Proofs.Tryz
open Go.RowKit
variable {D:Type} {k B b:Nat} {l:aK} {w w':World}
def uT(gs:List (aU bG))(g:aU bG):List (aU bG) :=
 let l:=gs.filter (fun x=>!mM g.o g.proxy g.a.aO x)++[g]
 l.drop (l.length-8)
def Gq(base:Nat)(w:World)(b:Nat)(gv wv:Value)(gs:List (aU bG))(ws:List (bL bG))(e:Ending)(w':World):Prop :=
 e=.returned (.tuple #[])/\kp base w b gv wv gs ws w'
theorem EZ{base:Nat}{w2 w3 w4:World}{b:Nat}{gv wv:Value}{fs:List (aU bG)}{ws:List (bL bG)}{m:aU bG}{r3:aU Value}{rs:List (aU Value)}{gg cap:Nat}(h2:dC base w2 b gv wv fs ws)
  (ho:OwnRows base 133 16 w2 gv (rs.map aU.cells))(jX:ld (aU.Reads (df base w2)) rs fs)(iG:Fr aX w2 w3)(rf:aU.Reads (df base w3) r3 m)(qq:∀u∈r3.cells,u.oneCell'=true)(kH:Fr (own gv) w3 w4)
  (eV:w4.ownsRow base 133 16 (.slice (some ⟨gg,0,none⟩) (fs.length+1) cap) (fs.length+1) ((rs.map aU.cells).flatten++r3.cells))(dT:gv.ownBlock=some gg\/w2.heap.size<=gg) :
  dC base (w4.setCell ⟨b,0,none⟩ (.slice (some ⟨gg,0,none⟩) (fs.length+1) cap)) b (.slice (some ⟨gg,0,none⟩) (fs.length+1) cap) wv (fs++[m]) ws /\
  Fr (dk b gv wv) w2 (w4.setCell ⟨b,0,none⟩ (.slice (some ⟨gg,0,none⟩) (fs.length+1) cap))/\∀k,dk b (.slice (some ⟨gg,0,none⟩) (fs.length+1) cap) wv k->dk b gv wv k\/w2.heap.size<=k:=by
 have kO:=h2.low;have uM:=jX.len;have xx:=ho.fr iG (fun _ _ h=>h);have CS:rJ base w3 (own gv):=xx.off (az _) ag;have uP:ld (aU.Reads (df base w4)) (rs++[r3]) (fs++[m]) :=
  (jX.mono (fun _ _ h=>h.mono (fun _ _ h=>(h.dx iG).fr kH CS))).app (.cons (rf.mono (fun _ _ h=>h.fr kH CS)) .nil)
 have Ba:g_ base w4 (.slice (some ⟨gg,0,none⟩) (fs.length+1) cap) (fs++[m]):=by
  refine⟨rs++[r3],⟨?_,?_⟩,uP⟩
  ·intro x hx;rw[bI]at hx;rcases bO.1 hx with hx|hx
   ·exact ho.1 x hx
   ·simp at hx;subst hx;exact⟨rfl,qq⟩
  ·rw[bI,eh,aM,aj,uM];simpa using eV
 have h3:=h2.dx iG;have su:=kH.keep h3.eK h3.gb;have qf:jY base w4 wv ws:=h3.waits.fr kH CS (fun k hk hg=>h3.gw hg hk);have Sn:Fr (dk b gv wv) w2 w4:=fN (iG.mono (fun _ _ h=>absurd h id)) kH (fun _ _ hk=>Or.inr (Or.inl hk));refine⟨nx kO su Ba qf,Sn.setCell (p:=⟨b,0,none⟩) (fun _=>Or.inl rfl) _,?_⟩;rintro k(hk|hk|hk)
 ·exact Or.inl (Or.inl hk)
 ·have e:gg=k:=by simpa[own,Value.ownBlock]using hk
  subst e;rcases dT with dT|dT
  ·exact Or.inl (Or.inr (Or.inl dT))
  ·exact Or.inr dT
 ·exact Or.inl (Or.inr (Or.inr hk))
theorem Jv{base:Nat}{w5 w6:World}{b gg cap n:Nat}{wv:Value}{ls:List (aU bG)}{ws:List (bL bG)}{rs:List (aU Value)}(h5:dC base w5 b (.slice (some ⟨gg,0,none⟩) ls.length cap) wv ls ws)
  (hb:ld (aU.Reads (df base w5)) rs ls)(yD:OwnRows base 133 16 w6 (.slice (some ⟨gg,0,none⟩) (0+(ls.length-n)) cap) ((rs.map aU.cells).take 0++(rs.map aU.cells).drop n))(nt:Fr (one gg) w5 w6) :
  dC base (w6.setCell ⟨b,0,none⟩ (.slice (some ⟨gg,0,none⟩) (0+(ls.length-n)) cap)) b (.slice (some ⟨gg,0,none⟩) (0+(ls.length-n)) cap) wv (ls.drop n) ws /\
  Fr (dk b (.slice (some ⟨gg,0,none⟩) ls.length cap) wv) w5 (w6.setCell ⟨b,0,none⟩ (.slice (some ⟨gg,0,none⟩) (0+(ls.length-n)) cap))/\w6.cell? ⟨b,0,none⟩=some (.slice (some ⟨gg,0,none⟩) ls.length cap)/\w6.frozen? ⟨b,0,none⟩=false:=by
 have kO:=h5.low;have ec:∀k,one gg k->own (.slice (some ⟨gg,0,none⟩) ls.length cap) k:=fun k hk=>by have e:k=gg:=hk;rw[e];rfl
 have mJ:rJ base w5 (one gg):=fun k hk hl=>h5.off k (Or.inr (Or.inl (ec k hk))) hl;have su:=nt.keep h5.eK (fun h=>h5.gb (ec _ h));have yU:jY base w6 wv ws:=h5.waits.fr nt mJ (fun k hk hg=>h5.gw (ec _ hg) hk);have hg6:g_ base w6 (.slice (some ⟨gg,0,none⟩) (0+(ls.length-n)) cap) (ls.drop n):=by
  refine⟨rs.drop n,?_,(hb.mono (fun _ _ h=>h.mono (fun _ _ h=>h.fr nt mJ))).drop n⟩;rw[List.take_zero,List.nil_append]at yD;rw[List.map_drop];exact yD
 have Sn:Fr (dk b (.slice (some ⟨gg,0,none⟩) ls.length cap) wv) w5 w6:=nt.mono (fun k _ hk=>Or.inr (Or.inl (ec k hk)));exact⟨nx kO su hg6 yU,Sn.setCell (p:=⟨b,0,none⟩) (fun _=>Or.inl rfl) _,by simp[World.cell?,su],by simp[World.frozen?,su]⟩
theorem N6(base:Nat)(w:World)(b:Nat)(gv wv:Value)(gs:List (aU bG))(ws:List (bL bG))(g:aU Value)(m:aU bG)(h:dC base w b gv wv gs ws)(hg:g.Reads (df base w) m)(LV:gs.length<34359738368) :
  aE 79 #[.pointer (some ⟨b,0,none⟩),.agg g.cells.toArray] w (Gq base w b gv wv (uT gs m) ws):=by
 obtain⟨x,hx⟩:∃x,x=g.cells:=⟨_,rfl⟩;have lI:x.length=16:=by rw[hx];rfl
 have tK:=h.lt;have kO:=h.low;have oL:Fr aX w (w.alloc (.cells x.toArray 133)):=(ae aX w).alloc _;have h1:=h.dx oL;have Il:=hg.mono (fun _ _ h=>h.dx oL);have rh:(w.alloc (.cells x.toArray 133)).heap[w.heap.size]?=some (.cells x.toArray 133 (0,0)):=aC _ _;have mS:∀i u,g.cells[i]?=some u->(w.alloc (.cells x.toArray 133)).cell? ⟨w.heap.size,i,none⟩=some u:=fun i u hu=>by
  rw[<-hx]at hu;simp only[World.cell?,rh];simpa using hu
 have c0:=mS 0 _ rfl;have c1:=mS 1 _ rfl;have c2:=mS 2 _ rfl;have c3:=mS 3 _ rfl;have c7:=mS 7 _ rfl;have sg:=O (yT base _ b gv wv gs ws g.o g.proxy g.a.aO h1);have td:=O rh;have HG:=O Il;have HX:=O hx;rw[<-hx];clear hg Il rh mS hx;go_enter func79,ntmps79;go_wp2_with fail
 clear c0 c1 c2 c3 c7;have DJ:w.heap.size<(w.alloc (.cells x.toArray 133)).heap.size:=aS;generalize w.alloc (.cells x.toArray 133)=W at *
 refine sg.o.mono ?_;intro e w2 hpd;obtain⟨rfl,gv2,wv2,h2,dF,Jw⟩:=hpd;have mJ:=h1.off;have p9:¬dk b gv wv w.heap.size:=by
  rintro(e|hk|hk)
  ·omega
  ·obtain⟨c,e⟩:=h.tB hk;have:=bg e;omega
  ·obtain⟨c,e⟩:=h.vJ hk;have:=bg e;omega
 have yV:=O (dF.keep td.o p9);have yh:=O (HG.o.mono (fun _ _ h=>h.fr dF mJ));have Xx:(gs.filter (fun g_1=>!mM g.o g.proxy g.a.aO g_1)).length<=gs.length:=bR _ _;obtain⟨fs,kx⟩:∃fs,fs=gs.filter (fun g_1=>!mM g.o g.proxy g.a.aO g_1):=⟨_,rfl⟩;rw[<-kx]at h2 Xx ⊢;have Tk:=O kx;have km:Fr (dk b gv wv) w w2:=fN (oL.mono (fun _ _ h=>absurd h id)) dF (fun _ _ h=>h);clear sg oL dF mJ kx h1 h td HG
 have CG:=O (show uT gs m=(fs++[m]).drop (fs.length+1-8)by
  have hr:=yh.o;unfold uT;rw[<-hr.1, <-hr.2.1, <-hr.2.2.2.2.1.2.1, <-Tk.o];simp)
 obtain⟨av,cv,Tg⟩:=h2.bZ.form;subst Tg;have d0:=h2.c0;have e0:=h2.free 0;obtain⟨rs,ho,jX⟩:=h2.bZ;have cQ:=ho.2;have nZ:∀i u,g.cells[i]?=some u->w2.cell? ⟨w.heap.size,i,none⟩=some u:=fun i u hu=>by
  have e:=HX.o;rw[<-e]at hu;simp only[World.cell?,yV.o];simpa using hu
 have x0:=nZ 0 _ rfl;have x1:=nZ 1 _ rfl;have x2:=nZ 2 _ rfl;have x3:=nZ 3 _ rfl;have x4:=nZ 4 _ rfl;have x5:=nZ 5 _ rfl;have x6:=nZ 6 _ rfl;have x7:=nZ 7 _ rfl;have x8:=nZ 8 _ rfl;have x9:=nZ 9 _ rfl;have Xy:=nZ 10 _ rfl;have Xz:=nZ 11 _ rfl;have x12:=nZ 12 _ rfl;have x13:=nZ 13 _ rfl;have x14:=nZ 14 _ rfl;have x15:=nZ 15 _ rfl;have Jy:¬own (.slice av fs.length cv) w.heap.size:=fun hk=>by
  rcases Jw _ (Or.inr (Or.inl hk))with h|h
  ·exact p9 h
  ·omega
 have fF:=O (show∀U,Fr aX w2 U->aE 94 #[.agg #[.bool g.o.aD,.string g.o.host,.int .i64 g.o.port,.bool g.proxy,.string g.user,.string g.pass,.int .i64 g.a.scheme,.string g.a.aO,.string g.a.bC,.string g.a.cj,.bool g.a.cy,.string g.a.eZ,.bool g.a.dr,g.a.dom,.int .i64 g.count,g.paths]] U (Te base m U)from fun U hU=>by
  exact uf base g m U (by have:=h2.lt;have:=hU.size;omega) (yh.o.mono (fun _ _ h=>h.dx hU)))
 obtain⟨i0,rL,pA,kP,kR⟩:=info_parts xJ;have HO:=O ho;have qe:=O jX;have uM:=jX.len;have Zr:=O (show(rs.map aU.cells).length=fs.length by rw[aj,uM]);have arH:base<=w2.heap.size:=by have:=h2.lt;omega
 have zz:¬own (.slice av fs.length cv) b:=h2.gb
 have CT:=O (show∀U,Fr (own (.slice av fs.length cv)) w2 U->U.cell? ⟨b,0,none⟩=some (.slice av fs.length cv)/\U.cell? ⟨w.heap.size,0,none⟩=some (.bool g.o.aD)/\U.cell? ⟨w.heap.size,1,none⟩=some (.string g.o.host)/\U.cell? ⟨w.heap.size,2,none⟩=some (.int .i64 g.o.port)/\U.cell? ⟨w.heap.size,3,none⟩=some (.bool g.proxy)/\U.cell? ⟨w.heap.size,4,none⟩=some (.string g.user)/\U.cell? ⟨w.heap.size,5,none⟩=some (.string g.pass)/\U.cell? ⟨w.heap.size,6,none⟩=some (.int .i64 g.a.scheme)/\U.cell? ⟨w.heap.size,7,none⟩=some (.string g.a.aO)/\U.cell? ⟨w.heap.size,8,none⟩=some (.string g.a.bC)/\U.cell? ⟨w.heap.size,9,none⟩=some (.string g.a.cj)/\U.cell? ⟨w.heap.size,10,none⟩=some (.bool g.a.cy)/\U.cell? ⟨w.heap.size,11,none⟩=some (.string g.a.eZ)/\U.cell? ⟨w.heap.size,12,none⟩=some (.bool g.a.dr)/\U.cell? ⟨w.heap.size,13,none⟩=some (g.a.dom)/\U.cell? ⟨w.heap.size,14,none⟩=some (.int .i64 g.count)/\U.cell? ⟨w.heap.size,15,none⟩=some (g.paths)from fun U hU=>by
  have hc:∀i u,g.cells[i]?=some u->U.cell? ⟨w.heap.size,i,none⟩=some u:=fun i u hu=>(hU.cell (p:=⟨w.heap.size,i,none⟩) (bg yV.o) Jy).trans (nZ i u hu);exact⟨(hU.cell (p:=⟨b,0,none⟩) h2.lt zz).trans d0,hc 0 _ rfl,hc 1 _ rfl,hc 2 _ rfl,hc 3 _ rfl,hc 4 _ rfl,hc 5 _ rfl,hc 6 _ rfl,hc 7 _ rfl,hc 8 _ rfl,hc 9 _ rfl,hc 10 _ rfl,hc 11 _ rfl,hc 12 _ rfl,hc 13 _ rfl,hc 14 _ rfl,hc 15 _ rfl⟩)
 clear ho jX uM cQ nZ;go_wp2_with fail
 go_region_law (first
   |((with_reducible refine mF ⟨some 20,_,_,_,_,_⟩ ?_)
     refine zN rfl 94 _ (by go_simp) (fF.o _ (by repeat(first|exact ae _ _|apply aA))) ?_
     intro e w3 LW
     obtain⟨r3,rfl,rf,qq,iG⟩:=LW
     refine⟨_,rfl,?_⟩
     have il:Fr aX w2 w3:=bF (by repeat(first|exact ae _ _|apply aA)) iG
     have hk:=CT.o w3 (il.mono (fun _ _ h=>absurd h id))
     have k3:=hk.1
     have Zs:b<w3.heap.size:=cN h2.lt il.size
     obtain⟨y,hy⟩:∃y,y=r3.cells:=⟨_,rfl⟩
     have Ew:y.length=16:=by rw[hy];rfl
     have HY:=O hy
     rw[<-hy]at qq ⊢
     have EW:=vw y #[.bool false,.string ⟨#[]⟩,.int .i64 0,.bool false,.string ⟨#[]⟩,.string ⟨#[]⟩,.int .i64 0,.string ⟨#[]⟩,.string ⟨#[]⟩,.string ⟨#[]⟩,.bool false,.string ⟨#[]⟩,.bool false,.slice none 0 0,.int .i64 0,.slice none 0 0] (by rw[Ew];rfl)
     have fo:w3.ownsRow base 133 16 (.slice av fs.length cv) fs.length (rs.map aU.cells).flatten:=by
       have h:=(HO.o.fr il (fun _ _ h=>h)).2
       rw[Zr.o]at h
       exact h
     have sJ:base<=w3.heap.size:=by have:=il.size;omega
     clear hy iG)
   |((with_reducible refine mF ⟨some 22,_,_,_,_,_⟩ ?_)
     refine step_append_lies _ bB _ _ _ bB base 133 i0 _ 16 216 underlying85 rL pA kP kR rfl ab (.slice av fs.length cv) fs.length _ bB (by repeat(first|exact fo|apply World.ownsRow.alloc|apply World.ownsRow.drew)) ⟨w3.heap.size,0,none⟩ 1 1 y bB (by rw[Ew]) (ky w3 y _) qq ab ft ab bH (w3.heap.size+1) aS ?_
     intro gg cap w4 eV jq dT Jz
     have afR:Fr (own (.slice av fs.length cv)) w2 w3:=il.mono (fun _ _ h=>absurd h id)
     have jN:Fr (own (.slice av fs.length cv)) w2 w4:=fg (by repeat(first|exact afR|apply aA|apply bq)) jq (fun _ hk _=>hk)
     have Gr:Fr (own (.slice av fs.length cv)) w3 w4:=fg (by repeat(first|exact ae _ _|apply aA|apply bq)) jq (fun _ hk _=>hk)
     have hk:=CT.o w4 jN
     have k4:=hk.1
     have e4:w4.frozen? ⟨b,0,none⟩=false:=(jN.frozen (p:=⟨b,0,none⟩) h2.lt zz).trans e0))
 all_goals
  rw[HY.o]at eV qq;obtain⟨h5,hF5,PE⟩:=EZ h2 HO.o qe.o il rf qq Gr eV (dT.imp id (fun h=>by have:=il.size;omega));have d5:=h5.c0;have e5:=h5.free 0;clear fF CT eV jq jN Gr fo afR k4 e4 hk k3 x0 x1 x2 x3 x4 x5 x6 x7 x8 x9 Xy Xz x12 x13 x14 x15 d0 e0 EW rf qq;generalize w4.setCell ⟨b,0,none⟩ (.slice (some ⟨gg,0,none⟩) (fs.length+1) cap)=w5 at *
  have zV:(fs++[m]).length=fs.length+1:=aS;have Rk:=O zV;have xO:Fr (dk b gv wv) w w5:=km.step hF5 (fun k hk hb=>by
   rcases Jw k hb with h|h
   ·exact h
   ·omega)
  have D5:∀k,dk b (.slice (some ⟨gg,0,none⟩) (fs.length+1) cap) wv2 k->dk b gv wv k\/w.heap.size<=k:=fun k hk=>by
   rcases PE k hk with h|h
   ·rcases Jw k h with h|h
    ·exact Or.inl h
    ·exact Or.inr ab
   ·exact Or.inr (by have:=km.size;omega)
  by_cases h8:8<=fs.length
  ·have ZS:(8:Int)<(fs.length:Int)+1:=ab;obtain⟨n,hn⟩:∃n:Nat,fs.length+1=n+8:=⟨fs.length+1-8,ab⟩;rw[<-zV]at h5;obtain⟨rs5,KT,D6⟩:=h5.bZ;have LZ:=O (show(rs5.map aU.cells).length=fs.length+1 by rw[aj,D6.len,zV]);have qi:=O (EX base gg cap 0 n (rs5.map aU.cells) w5 (by rw[LZ.o, <-zV];exact KT) ab (by rw[LZ.o];omega));have hn':=O hn;rw[LZ.o]at qi;clear hn zV;go_wp2_with fail
   rw[show((fs.length:Int)+1-8)=(n:Int)from by have:=hn'.o;omega];refine qi.o.mono ?_;rintro e w6⟨rfl,yD,nt⟩;obtain⟨h7,Rl,d7,e7⟩:=Jv (n:=n) h5 D6 (by rw[Rk.o];exact yD) nt;rw[Rk.o,bw]at h7 Rl;rw[Rk.o]at d7;have H7:=O h7;have Hj:=O Rl;clear h7 Rl qi yD D6 KT;go_wp2_with fail
   go_end0;refine⟨rfl,_,_,by rw[CG.o,show fs.length+1-8=n from by have:=hn'.o;omega];exact H7.o,xO.step Hj.o (fun k hk hb=>by
    rcases D5 k hb with h|h
    ·exact h
    ·omega),fun k hk=>D5 k ?_⟩
   rcases hk with h|h|h
   ·exact Or.inl h
   ·exact Or.inr (Or.inl h)
   ·exact Or.inr (Or.inr h)
  ·have ZS:¬(8:Int)<(fs.length:Int)+1:=ab;go_wp2_with fail
   go_end0;exact⟨rfl,_,_,by rw[CG.o,show fs.length+1-8=0 from ab,eF];exact h5,xO,D5⟩
structure fW (D:Type) where
 part:Int
 cG:gz
 o:gz
 path:ai
 query:ai
 method:ai
 ef:D
 fq:Bool
 body:ai
def fW.cells(r:fW Value):a_:=[.int .i64 r.part,.bool r.cG.aD,.string r.cG.host,.int .i64 r.cG.port,.bool r.o.aD,.string r.o.host,.int .i64 r.o.port,.string r.path,.string r.query,.string r.method,r.ef,.bool r.fq,.string r.body]
def fW.dX(r:fW D)(hs:List gT):qE:=⟨r.cG,r.o,r.path,r.query,r.method,hs,r.fq⟩
def uB(w:World)(v:Value)(ps:List ep):Prop:=ez 12 w v (ps.map ep.cells)
def Gt(x:a_):ep:=⟨⟨cB x 0,cS x 1,cI x 2⟩,⟨cB x 3,cS x 4,cI x 5⟩,cS x 6,cS x 7,cB x 8,cS x 9,cS x 10,cI x 11⟩
theorem CZ(ps:List ep)(f:ep->Bool):(ps.map ep.cells).any (fun x=>f (Gt x))=ps.any f:=by
 rw[List.any_map];rfl
theorem TA(p:ep)(m:ai)(r:fW Value)(bm br:Nat)(w:World)(hm:w.heap[bm]?=some (.cells #[.string m] 9 (0,0)))(hr:w.heap[br]?=some (.cells r.cells.toArray 29 (0,0))) :
  aE 127 #[.agg p.cells.toArray,.pointer (some ⟨bm,0,none⟩),.pointer (some ⟨br,0,none⟩)] w fun e w'=>e=.returned (.bool (p.lets m r.fq))/\Fr aX w w':=by
 unfold ep.cells;unfold fW.cells at hr;have ix:Fr aX w _:=(ae aX w).alloc (.cells #[.bool p.cG.aD,.string p.cG.host,.int .i64 p.cG.port,.bool p.o.aD,.string p.o.host,.int .i64 p.o.port,.string p.path,.string p.query,.bool p.fq,.string p.method,.string p.head,.int .i64 p.pC] 137);have Hl:=ix.keep hm id;have pN:=ix.keep hr id
 have cm:(w.alloc (.cells #[.bool p.cG.aD,.string p.cG.host,.int .i64 p.cG.port,.bool p.o.aD,.string p.o.host,.int .i64 p.o.port,.string p.path,.string p.query,.bool p.fq,.string p.method,.string p.head,.int .i64 p.pC] 137)).cell? ⟨bm,0,none⟩=some (.string m):=by simp[World.cell?,Hl]
 clear Hl;have si:=O ix;cases e1:(p.method.toList==m.toList)
 ·cases e2:(p.method.toList==star)
  ·have HR:=O (show p.lets m r.fq=false by unfold ep.lets;rw[e1,e2];rfl);have ZL:(p.method.toList== [42])=false:=e2;clear ix hm hr e2;go_enter func127,ntmps127;go_wp2;go_ret;exact⟨by rw[HR.o];rfl,si.o⟩
  ·have ZL:(p.method.toList== [42])=true:=e2;have cw:(w.alloc (.cells #[.bool p.cG.aD,.string p.cG.host,.int .i64 p.cG.port,.bool p.o.aD,.string p.o.host,.int .i64 p.o.port,.string p.path,.string p.query,.bool p.fq,.string p.method,.string p.head,.int .i64 p.pC] 137)).cell? ⟨br,11,none⟩=some (.bool r.fq):=by simp[World.cell?,pN]
   cases e3:r.fq
   ·have HR:=O (show p.lets m false=true by unfold ep.lets;rw[e1,e2];rfl);rw[e3]at cw;clear ix hm hr e2 pN e3;go_enter func127,ntmps127;go_wp2;go_ret;exact⟨by rw[HR.o];rfl,si.o⟩
   ·have HR:=O (show p.lets m true=false by unfold ep.lets;rw[e1,e2];rfl);rw[e3]at cw;clear ix hm hr e2 pN e3;go_enter func127,ntmps127;go_wp2;go_ret;exact⟨by rw[HR.o];rfl,si.o⟩
 ·have HR:=O (show p.lets m r.fq=true by unfold ep.lets;rw[e1];rfl);clear ix hm hr;go_enter func127,ntmps127;go_wp2;go_ret;exact⟨by rw[HR.o];rfl,si.o⟩
theorem JG(p:ep)(m:ai)(r:fW Value)(bm br:Nat)(w:World)(hm:w.heap[bm]?=some (.cells #[.string m] 9 (0,0)))(hr:w.heap[br]?=some (.cells r.cells.toArray 29 (0,0))) :
  aE 129 #[.agg p.cells.toArray,.pointer (some ⟨bm,0,none⟩),.pointer (some ⟨br,0,none⟩)] w fun e w'=>e=.returned (.bool (p.mL m r.fq))/\Fr aX w w':=by
 unfold ep.cells;unfold fW.cells at hr;have ix:Fr aX w _:=(ae aX w).alloc (.cells #[.bool p.cG.aD,.string p.cG.host,.int .i64 p.cG.port,.bool p.o.aD,.string p.o.host,.int .i64 p.o.port,.string p.path,.string p.query,.bool p.fq,.string p.method,.string p.head,.int .i64 p.pC] 137);have Hl:=ix.keep hm id;have pN:=ix.keep hr id
 have cm:(w.alloc (.cells #[.bool p.cG.aD,.string p.cG.host,.int .i64 p.cG.port,.bool p.o.aD,.string p.o.host,.int .i64 p.o.port,.string p.path,.string p.query,.bool p.fq,.string p.method,.string p.head,.int .i64 p.pC] 137)).cell? ⟨bm,0,none⟩=some (.string m):=by simp[World.cell?,Hl]
 clear Hl;have si:=O ix;cases e1:(p.head.toList==m.toList)
 ·cases e2:(p.head.toList==star)
  ·have HR:=O (show p.mL m r.fq=false by unfold ep.mL;rw[e1,e2];rfl);have ZL:(p.head.toList== [42])=false:=e2;clear ix hm hr e2;go_enter func129,ntmps129;go_wp2;go_ret;exact⟨by rw[HR.o];rfl,si.o⟩
  ·have ZL:(p.head.toList== [42])=true:=e2;have cw:(w.alloc (.cells #[.bool p.cG.aD,.string p.cG.host,.int .i64 p.cG.port,.bool p.o.aD,.string p.o.host,.int .i64 p.o.port,.string p.path,.string p.query,.bool p.fq,.string p.method,.string p.head,.int .i64 p.pC] 137)).cell? ⟨br,11,none⟩=some (.bool r.fq):=by simp[World.cell?,pN]
   cases e3:r.fq
   ·rw[e3]at cw;cases e4:(m.toList==Zm)
    ·have HR:=O (show p.mL m false=true by unfold ep.mL;rw[e1,e2];unfold bne;rw[e4];rfl);have e4':(m.toList== [97,117,116,104,111,114,105,122,97,116,105,111,110])=false:=e4;clear ix hm hr e2 pN e3 e4;go_enter func129,ntmps129;go_wp2;go_ret;exact⟨by rw[HR.o];rfl,si.o⟩
    ·have HR:=O (show p.mL m false=false by unfold ep.mL;rw[e1,e2];unfold bne;rw[e4];rfl);have e4':(m.toList== [97,117,116,104,111,114,105,122,97,116,105,111,110])=true:=e4;clear ix hm hr e2 pN e3 e4;go_enter func129,ntmps129;go_wp2;go_ret;exact⟨by rw[HR.o];rfl,si.o⟩
   ·have HR:=O (show p.mL m true=false by unfold ep.mL;rw[e1,e2];rfl);rw[e3]at cw;clear ix hm hr e2 pN e3;go_enter func129,ntmps129;go_wp2;go_ret;exact⟨by rw[HR.o];rfl,si.o⟩
 ·have HR:=O (show p.mL m r.fq=true by unfold ep.mL;rw[e1];rfl);clear ix hm hr;go_enter func129,ntmps129;go_wp2;go_ret;exact⟨by rw[HR.o];rfl,si.o⟩
theorem C0(g:Nat)(cap:bW)(p:a_->Bool)(v:Value)(xs:cX)(bl:Nat)(w:World)(eg:∀args w,(callFunc g args).run prog w=.ok (.enter g args) w)(hp:hD aX w g cap p xs)(hv:ez 12 w v xs)(hl:w.heap[bl]?=some (.cells #[v] 119 (0,0))) :
  aE 124 #[.func (.func g) #[] cap,.pointer (some ⟨bl,0,none⟩)] w fun e w'=>e=.returned (.bool (xs.any p))/\Fr aX w w':=by
 have hc:=O (Bk g cap p v xs w eg hp hv);obtain⟨av,cv,rfl⟩:=hv.form;have c0:w.cell? ⟨bl,0,none⟩=some (.slice av xs.length cv):=by simp[World.cell?,hl]
 clear hv hl hp;go_enter func124,ntmps124;go_wp2_with fail
 refine hc.o.mono ?_;rintro e u⟨rfl,hf⟩;go_wp2;go_ret;exact⟨rfl,hf⟩
def Fc(r:fW Value)(hs:List gT):Prop:=r.method.size<100000/\hs.length<100000/\∀p∈hs,p.1.size<100000/\p.2.size<100000
def Z1(hs:List ai)(fq:Bool)(ps:List ep)(w:World)(t:Value)(wr:World):Prop :=
 ∃k:Nat,k<=hs.length/\t=.int .i64 k/\(hs.take k).all (fun h=>ps.any (ep.mL h fq))=true/\Fr aX w wr
theorem uh{α:Type}{p:α->Bool}{l:List α}{x:α}(h:l[k]?=some x)(hn:(l.take k).all p=true)(hp:p x=true):(l.take (k+1)).all p=true:=by
 rw[dU h,jO,hn];simp[hp]
theorem xP{α:Type}{p:α->Bool}{l:List α}{x:α}(h:l[k]?=some x)(hp:p x=false):l.all p=false:=by
 rw[iX];exact⟨x,cL h,by simp[hp]⟩
theorem xQ(r:fW Value)(hs:List gT)(v:Value)(ps:List ep)(w:World)(hr:ot w r.ef hs)(hv:uB w v ps)(hz:Fc r hs) :
  aE 84 #[.agg r.cells.toArray,v] w fun e w'=>e=.returned (.bool ((r.dX hs).mO ps))/\Fr aX w w':=by
 have gy:=O (show(r.dX hs).mO ps=((qA (jB r.method)||ps.any (ep.lets (jB r.method) r.fq))&&(xv hs).all fun h=>ps.any (ep.mL h r.fq))from rfl);generalize (r.dX hs).mO ps=res at gy ⊢;obtain⟨av,cv,Jm⟩:=dR hv;rw[aj]at Jm;subst Jm;obtain⟨ah,ch,gu⟩:=dR hr;rw[aj]at gu;obtain⟨rc,ui⟩:∃rc,rc=r.cells.toArray:=⟨_,rfl⟩
 obtain⟨wb,jP⟩:∃wb,wb=(w.alloc (.cells rc 29)).alloc (.cells #[.slice av ps.length cv] 119):=⟨_,rfl⟩;have kf:Fr aX w wb:=by rw[jP];exact((ae aX w).alloc _).alloc _
 have hsb:wb.heap.size=w.heap.size+2:=by rw[jP];simp
 have l_:wb.heap[w.heap.size]?=some (.cells rc 29 (0,0)):=by rw[jP];exact((ae aX _).alloc _).keep (aC _ _) id
 have sH:wb.heap[w.heap.size+1]?=some (.cells #[.slice av ps.length cv] 119 (0,0)):=by
  have h:=aC (w.alloc (.cells rc 29)) (.cells #[.slice av ps.length cv] 119);rw[bK]at h;rw[jP];exact h
 have HC:=O (show∀U,Fr aX wb U->U.heap[w.heap.size]?=some (.cells r.cells.toArray 29 (0,0))/\U.heap[w.heap.size+1]?=some (.cells #[.slice av ps.length cv] 119 (0,0))from fun U hU=>⟨by rw[<-ui];exact hU.keep l_ id,hU.keep sH id⟩);have HX:=O (show∀U,Fr aX wb U->U.cell? ⟨w.heap.size,9,none⟩=some (.string r.method)/\U.cell? ⟨w.heap.size,10,none⟩=some (.slice ah hs.length ch)from fun U hU=>by
  have j:=(HC.o U hU).1;unfold fW.cells at j;rw[gu]at j;simp[World.cell?,j])
 have HV:=O (show∀U,Fr aX w U->uB U (.slice av ps.length cv) ps from fun U hU=>bM hv hU);have HH:=O (show∀U,Fr aX w U->ot U (.slice ah hs.length ch) hs from fun U hU=>by rw[<-gu];exact bM hr hU);have HZ:=O hz;have lV:=O kf;have qB:=O jP;have NG:=O ui;clear hv hr hz kf jP l_ sH;rw[<-ui];clear ui;obtain⟨c9,Gu⟩:=HX.o wb (ae _ _);rw[qB.o]at c9 Gu;go_enter func84,ntmps84;go_wp2_with fail
 rw[<-qB.o];refine(xu r.method wb HZ.o.1).mono ?_;rintro e u1⟨rfl,dw⟩;obtain⟨m,hm⟩:∃m,m=jB r.method:=⟨_,rfl⟩;rw[<-hm]at gy ⊢;clear hm;obtain⟨w1,oM⟩:∃w1,w1=u1.alloc (.cells #[.string m] 9):=⟨_,rfl⟩;have hmb:w1.heap[u1.heap.size]?=some (.cells #[.string m] 9 (0,0)):=by rw[oM];exact aC _ _
 have dF:Fr aX wb w1:=by rw[oM];exact dw.alloc _
 have Pd:=O oM;have lA:=O dF;have k0:w1.cell? ⟨u1.heap.size,0,none⟩=some (.string m):=by simp[World.cell?,hmb]
 have HMB:=O hmb;clear dw dF c9 Gu oM hmb;go_wp2_with fail
 rw[<-Pd.o];refine(Lj m w1).mono ?_;rintro e u2⟨rfl,rfl⟩
 -- the method is allowed
 have xb:=O (show aE 124 #[.func (.func 127) #[] #[.pointer (some ⟨u1.heap.size,0,none⟩),.pointer (some ⟨w.heap.size,0,none⟩)],.pointer (some ⟨w.heap.size+1,0,none⟩)] w1 fun e w'=>e=.returned (.bool (ps.any (ep.lets m r.fq)))/\Fr aX w1 w' from by
  rw[<-CZ];refine C0 _ _ (fun x=>ep.lets m r.fq (Gt x)) _ _ _ w1 call127 ?_ (HV.o w1 (lV.o.trans lA.o)) (HC.o w1 lA.o).2;intro x hx u hu;obtain⟨p,hp,rfl⟩:=cz.1 hx;exact TA p m r _ _ u (hu.keep HMB.o id) ((HC.o u (lA.o.trans hu)).1))
 cases oO:qA m
 ·cases se:ps.any (ep.lets m r.fq)
  ·have HR:=O (show res=false by rw[gy.o,oO,se];rfl);rw[se]at xb;clear oO se gy;go_wp2_with fail
   refine xb.o.mono ?_;rintro e u3⟨rfl,iG⟩;go_wp2;go_ret;exact⟨by rw[HR.o];rfl,(lV.o.trans lA.o).trans iG⟩
  ·have Mf:=O (show res=(xv hs).all (fun h=>ps.any (ep.mL h r.fq))by rw[gy.o,oO,se];rfl);rw[se]at xb;clear oO se gy;go_wp2_with fail
   refine xb.o.mono ?_;rintro e u3⟨rfl,iG⟩;have il:=O (lA.o.trans iG);obtain⟨c9,Gu⟩:=HX.o _ il.o;clear iG xb;go_wp2_with fail
   refine(Ez hs _ u3 (HH.o u3 (lV.o.trans il.o)) HZ.o.2.1 HZ.o.2.2).mono ?_;rintro e u4⟨uv,rfl,iQ,kH⟩;obtain⟨au,cu,huf⟩:=iQ.form;obtain⟨nl,rA⟩:∃nl,nl=xv hs:=⟨_,rfl⟩;rw[<-rA]at iQ huf Mf;subst huf;have jN:=O (il.o.trans kH);have mC:=O iQ.at;clear kH iQ rA c9 Gu;go_wp2;go_loopw[26] (Z1 nl r.fq ps u4) (fun i _=>nl.length-(intOf i).toNat)
   case atStart=>exact⟨0,aW _,rfl,rfl,ae _ _⟩
   case round =>
    obtain⟨k,hk,rfl,iH,cR⟩:=hrel;have zM:=O iH;clear iH;by_cases fE:k<nl.length
    ·have qm:(k:Int)<(nl.length:Int):=ab;rcases mC.o.i_ cR with ⟨_,_,_,e,_⟩|⟨bk,o,c,hf,h1,h2,h3,h4⟩
     ·rw[e]at fE;exact absurd fE (ct _)
     ·cases hf;unfold maxLen at h2;have dT:=O (List.getElem?_eq_getElem fE);have hc:=h4 k _ dT.o;generalize nl[k]=x at dT hc;clear h4;obtain⟨wx,Mg⟩:∃wx,wx=wr.alloc (.cells #[.string x] 9):=⟨_,rfl⟩;have WK:wx.heap[wr.heap.size]?=some (.cells #[.string x] 9 (0,0)):=by rw[Mg];exact aC _ _
      have Ij:Fr aX wr wx:=by rw[Mg];exact(ae _ _).alloc _
      have BI:=O ((jN.o.trans cR).trans Ij);have XH:=O (show aE 124 #[.func (.func 129) #[] #[.pointer (some ⟨wr.heap.size,0,none⟩),.pointer (some ⟨w.heap.size,0,none⟩)],.pointer (some ⟨w.heap.size+1,0,none⟩)] wx fun e w'=>e=.returned (.bool (ps.any (ep.mL x r.fq)))/\Fr aX wx w' from by
       rw[<-CZ];refine C0 _ _ (fun y=>ep.mL x r.fq (Gt y)) _ _ _ wx call129 ?_ (HV.o wx (lV.o.trans BI.o)) (HC.o wx BI.o).2;intro y hy u hu;obtain⟨p,hp,rfl⟩:=cz.1 hy;exact JG p x r _ _ u (hu.keep WK id) ((HC.o u (BI.o.trans hu)).1))
      have Rn:=O Mg;have ue:=O (cR.trans Ij);clear Mg;cases jd:ps.any (ep.mL x r.fq)
      ·have HR:=O (show res=false by rw[Mf.o];exact xP dT.o jd);rw[jd]at XH;clear jd;go_wp2_with fail
       rw[<-Rn.o];refine XH.o.mono ?_;rintro e u6⟨rfl,nt⟩;go_wp2;go_ret;exact⟨by rw[HR.o];rfl,(lV.o.trans BI.o).trans nt⟩
      ·have p9:=O (uh dT.o zM.o jd);rw[jd]at XH;clear jd;go_wp2_with fail
       rw[<-Rn.o];refine XH.o.mono ?_;rintro e u6⟨rfl,nt⟩;go_wp2;go_roundw
       case rel=>exact⟨k+1,ab,bh,p9.o,ue.o.trans nt⟩
       case measure=>simp[intOf];omega
    ·have qm:¬(k:Int)<(nl.length:Int):=ab;have HR:=O (show res=true by rw[Mf.o];have h:=zM.o;rwa [aG ab]at h);go_wp2;go_ret;exact⟨by rw[HR.o];rfl,lV.o.trans (jN.o.trans cR)⟩
 ·have Mf:=O (show res=(xv hs).all (fun h=>ps.any (ep.mL h r.fq))by rw[gy.o,oO];simp);clear oO gy xb;obtain⟨c9,Gu⟩:=HX.o _ lA.o;go_wp2_with fail
  refine(Ez hs _ w1 (HH.o w1 (lV.o.trans lA.o)) HZ.o.2.1 HZ.o.2.2).mono ?_;rintro e u4⟨uv,rfl,iQ,kH⟩;obtain⟨au,cu,huf⟩:=iQ.form;obtain⟨nl,rA⟩:∃nl,nl=xv hs:=⟨_,rfl⟩;rw[<-rA]at iQ huf Mf;subst huf;have jN:=O (lA.o.trans kH);have mC:=O iQ.at;clear kH iQ rA c9 Gu;go_wp2;go_loopw[26] (Z1 nl r.fq ps u4) (fun i _=>nl.length-(intOf i).toNat)
  case atStart=>exact⟨0,aW _,rfl,rfl,ae _ _⟩
  case round =>
   obtain⟨k,hk,rfl,iH,cR⟩:=hrel;have zM:=O iH;clear iH;by_cases fE:k<nl.length
   ·have qm:(k:Int)<(nl.length:Int):=ab;rcases mC.o.i_ cR with ⟨_,_,_,e,_⟩|⟨bk,o,c,hf,h1,h2,h3,h4⟩
    ·rw[e]at fE;exact absurd fE (ct _)
    ·cases hf;unfold maxLen at h2;have dT:=O (List.getElem?_eq_getElem fE);have hc:=h4 k _ dT.o;generalize nl[k]=x at dT hc;clear h4;obtain⟨wx,Mg⟩:∃wx,wx=wr.alloc (.cells #[.string x] 9):=⟨_,rfl⟩;have WK:wx.heap[wr.heap.size]?=some (.cells #[.string x] 9 (0,0)):=by rw[Mg];exact aC _ _
     have Ij:Fr aX wr wx:=by rw[Mg];exact(ae _ _).alloc _
     have BI:=O ((jN.o.trans cR).trans Ij);have XH:=O (show aE 124 #[.func (.func 129) #[] #[.pointer (some ⟨wr.heap.size,0,none⟩),.pointer (some ⟨w.heap.size,0,none⟩)],.pointer (some ⟨w.heap.size+1,0,none⟩)] wx fun e w'=>e=.returned (.bool (ps.any (ep.mL x r.fq)))/\Fr aX wx w' from by
      rw[<-CZ];refine C0 _ _ (fun y=>ep.mL x r.fq (Gt y)) _ _ _ wx call129 ?_ (HV.o wx (lV.o.trans BI.o)) (HC.o wx BI.o).2;intro y hy u hu;obtain⟨p,hp,rfl⟩:=cz.1 hy;exact JG p x r _ _ u (hu.keep WK id) ((HC.o u (BI.o.trans hu)).1))
     have Rn:=O Mg;have ue:=O (cR.trans Ij);clear Mg;cases jd:ps.any (ep.mL x r.fq)
     ·have HR:=O (show res=false by rw[Mf.o];exact xP dT.o jd);rw[jd]at XH;clear jd;go_wp2_with fail
      rw[<-Rn.o];refine XH.o.mono ?_;rintro e u6⟨rfl,nt⟩;go_wp2;go_ret;exact⟨by rw[HR.o];rfl,(lV.o.trans BI.o).trans nt⟩
     ·have p9:=O (uh dT.o zM.o jd);rw[jd]at XH;clear jd;go_wp2_with fail
      rw[<-Rn.o];refine XH.o.mono ?_;rintro e u6⟨rfl,nt⟩;go_wp2;go_roundw
      case rel=>exact⟨k+1,ab,bh,p9.o,ue.o.trans nt⟩
      case measure=>simp[intOf];omega
   ·have qm:¬(k:Int)<(nl.length:Int):=ab;have HR:=O (show res=true by rw[Mf.o];have h:=zM.o;rwa [aG ab]at h);go_wp2;go_ret;exact⟨by rw[HR.o];rfl,lV.o.trans (jN.o.trans cR)⟩
theorem PL(r:fW Value)(hs:List gT)(w:World)(hr:ot w r.ef hs)(hz:Fc r hs) :
  aE 83 #[.agg r.cells.toArray] w fun e w'=>e=.returned (.bool (r.dX hs).needs)/\Fr aX w w':=by
 have gy:=O (show(r.dX hs).needs=(!r.cG.kM r.o&&!(r.dX hs).mO [])from rfl);generalize (r.dX hs).needs=res at gy ⊢;have hne:=Ay r.cG r.o;obtain⟨wb,jP⟩:∃wb,wb=w.alloc (.cells r.cells.toArray 29):=⟨_,rfl⟩;have kf:Fr aX w wb:=by rw[jP];exact(ae aX w).alloc _
 have l_:wb.heap[w.heap.size]?=some (.cells r.cells.toArray 29 (0,0)):=by rw[jP];exact aC _ _
 have mS:∀i u,r.cells[i]?=some u->wb.cell? ⟨w.heap.size,i,none⟩=some u:=fun i u hu=>by
  simp only[World.cell?,l_];simpa using hu
 have c1:=mS 1 _ rfl;have c2:=mS 2 _ rfl;have c3:=mS 3 _ rfl;have c4:=mS 4 _ rfl;have c5:=mS 5 _ rfl;have c6:=mS 6 _ rfl;have wL:=O (xQ r hs (.slice none 0 0) [] wb (bM hr kf) (show ez 12 wb _ []from⟨aS,Or.inl ⟨_,_,rfl,rfl,fun _=>rfl⟩⟩) hz);have lV:=O kf;have c7:=mS 7 _ rfl;have c8:=mS 8 _ rfl;have c9:=mS 9 _ rfl;have Gu:=mS 10 _ rfl;have TB:=mS 11 _ rfl;have ZY:=mS 12 _ rfl;have c0:=mS 0 _ rfl
 obtain⟨ah,ch,gu⟩:=dR hr;rw[aj]at gu;have ui:r.cells=[.int .i64 r.part,.bool r.cG.aD,.string r.cG.host,.int .i64 r.cG.port,.bool r.o.aD,.string r.o.host,.int .i64 r.o.port,.string r.path,.string r.query,.string r.method,.slice ah hs.length ch,.bool r.fq,.string r.body]:=by unfold fW.cells;rw[gu]
 rw[gu]at Gu;rw[ui]at wL jP ⊢;have qB:=O jP;clear gu ui mS l_ kf jP hr hz;cases e1:r.cG.kM r.o
 ·have HR:=O (show res=!(r.dX hs).mO []by rw[gy.o,e1];rfl);rw[e1]at hne;clear gy e1;rw[qB.o]at c0 c1 c2 c3 c4 c5 c6 c7 c8 c9 Gu TB ZY;go_enter func83,ntmps83;go_wp2_with fail
  rw[<-qB.o];refine wL.o.mono ?_;rintro e u⟨rfl,hf⟩;go_wp2;go_ret;exact⟨by rw[HR.o];rfl,lV.o.trans hf⟩
 ·have HR:=O (show res=false by rw[gy.o,e1];rfl);rw[e1]at hne;clear gy e1;rw[qB.o]at c0 c1 c2 c3 c4 c5 c6 c7 c8 c9 Gu TB ZY;have HF:=O (qB.o▸lV.o);go_enter func83,ntmps83;go_wp2;go_ret;exact⟨by rw[HR.o];rfl,HF.o⟩
theorem vr.off{S:dB}(h:vr B b l w)(hf:Fr S w w')(hb:¬S b)(hS:∀g cur fz,w.heap[g]?=some (.cells cur 5 fz)->¬S g):vr B b l w':=by
 have key:∀p,Lib.BuilderAtF 189 5 B b p (tJ l) w->Lib.BuilderAtF 189 5 B b p (tJ l) w':=by
  rintro p⟨hB,v,hv,⟨hx,hr⟩,hne⟩;refine⟨hB,v,hf.keep hv hb,⟨hx,?_⟩,hne⟩;rcases hr with hr|⟨g,cap,cur,fz,rfl,h1,hg,h2⟩
  ·exact Or.inl hr
  ·exact Or.inr ⟨g,cap,cur,fz,rfl,h1,hf.keep hg (hS g cur fz hg),h2⟩
 exact h.elim (fun x=>Or.inl (key _ x)) (fun x=>Or.inr (key _ x))
theorem vr.i_(h:vr B b l w)(hf:Fr aX w w'):vr B b l w':=h.off hf id (fun _ _ _ _ h=>h)
def yE(w:World)(d:Nat)(x:Bool):Prop:=w.heap[d]?=some (.cells #[.bool x] 4 (0,0))
theorem yE.Lx{d:Nat}{x:Bool}(h:yE w d x)(ho:aeT b w w')(hd:d≠b):yE w' d x :=
 ho d _ h (by simpa using hd) (fun c fz e=>by injection e with _ e2;exact absurd e2 ag)
def zP(q:Bool)(v:Bs):Bs:=if q then(if nJ v then fK v else [])else v
def zQ(q:Bool)(v:Bs):Bool:=q&&!nJ v
def qb(l nm x:Bs):Bs:=l++((if 7<l.length then [44,32]else [])++(nm++61 :: x))
def WV(B b d:Nat)(l:Bs)(bad:Bool)(nm v:Bs)(q:Bool)(w:World)(e:Ending)(w':World):Prop :=
 e=.returned (.tuple #[])/\vr B b (qb l nm (zP q v)) w'/\yE w' d (bad||zQ q v)/\Below B w w'
theorem VQ(a b:Bs):bA a++⟨#[61]⟩++bA b=bA (a++61 :: b):=by
 apply Go.WideShapes.bytes_inj;simp[bA]
theorem I8(v:Bs):(fK v).length<=2*v.length+2:=by
 have:=Nr v;unfold fK;simp;omega
theorem WW(B b d:Nat)(l nm v:Bs)(bad q:Bool)(w:World)(h:vr B b l w)(hd:yE w d bad)(hne:d≠b)(Ld:B<=d)(hn:nm.length<=1000)(hv:v.length<=100000)(hl:l.length<=100000000)(hB:B<=w.heap.size) :
  aE 106 #[.string (bA nm),.string (bA v),.bool q,.pointer (some ⟨d,0,none⟩),.pointer (some ⟨b,0,none⟩)] w (WV B b d l bad nm v q w):=by
 have z1:(bA nm).size=nm.length:=rfl;have z2:(bA v).size=v.length:=rfl;have z3:(⟨#[61]⟩:ai).size=1:=rfl;cases q with
 |false =>
  have Rb:zP false v=v:=rfl;go_enter func106,ntmps106;go_wp2_with fail
  refine(vt B b l w h).mono ?_;rintro e wl⟨rfl,rfl⟩;by_cases h7:7<l.length
  ·have WX:(7:Int)<(l.length:Int):=ab;go_wp2_with fail
   refine(eb B b l ⟨#[44,32]⟩ w h (by show l.length+2<=_;omega) (aH hB (Below.refl B w).size)).mono ?_;rintro e wx⟨rfl,rh,Ev,Ci⟩;have O5:=(hd).Lx Ci hne;have td:=O ((Below.refl B w).trans Ev);clear Ci Ev;go_wp2_with fail
   rw[show bA nm++⟨#[61]⟩++bA v=bA (nm++61 :: v)from VQ nm v];refine(eb B b _ (bA (nm++61 :: v)) wx rh (by show(l++[44,32]).length+(nm++61 :: v).length<=_;simp;omega) (aH hB td.o.size)).mono ?_;rintro e wy⟨rfl,qC,EF,Gc⟩;have Gd:=O5.Lx Gc hne;go_wp2;go_end0;refine⟨rfl,?_,(by rw[show zQ false v=false from rfl,Bool.or_false];exact Gd),td.o.trans EF⟩
   have e:qb l nm v=l++(⟨#[44,32]⟩:ai).data.toList++(bA (nm++61 :: v)).data.toList:=by unfold qb;rw[aB h7,fM];simp
   rw[Rb,e];exact qC
  ·have WX:¬(7:Int)<(l.length:Int):=ab;go_wp2_with fail
   rw[show bA nm++⟨#[61]⟩++bA v=bA (nm++61 :: v)from VQ nm v];refine(eb B b l (bA (nm++61 :: v)) w h (by show l.length+(nm++61 :: v).length<=_;simp;omega) (aH hB (Below.refl B w).size)).mono ?_;rintro e wy⟨rfl,qC,EF,Gc⟩;have Gd:=(hd).Lx Gc hne;go_wp2;go_end0;refine⟨rfl,?_,(by rw[show zQ false v=false from rfl,Bool.or_false];exact Gd),(Below.refl B w).trans EF⟩
   have e:qb l nm v=l++(bA (nm++61 :: v)).data.toList:=by unfold qb;rw[ay h7,fM];simp
   rw[Rb,e];exact qC
 |true =>
  have c0:∀U,Fr aX w U->U.cell? ⟨d,0,none⟩=some (.bool bad)/\U.frozen? ⟨d,0,none⟩=false:=fun U hU=>by
   have h1:=hU.keep hd id;exact⟨by simp[World.cell?,h1],by simp[World.frozen?,h1]⟩
  have Sq:=O c0;clear c0;cases ht:nJ v with
  |true =>
   have Rb:zP true v=fK v:=by unfold zP;rw[ht];rfl
   have WY:zQ true v=false:=by unfold zQ;rw[ht];rfl
   have hql:=I8 v;have z4:(bA (fK v)).size=(fK v).length:=rfl;go_enter func106,ntmps106;go_wp2_with fail
   refine(Eh (bA v) w ab).mono ?_;rintro e w1⟨rfl,dw⟩;rw[fM,aB ht];obtain⟨k0,k1⟩:=Sq.o w1 dw;obtain⟨w2,eC⟩:∃w2,w2=w1.setCell ⟨d,0,none⟩ (.bool bad):=⟨_,rfl⟩;have AZ:=dw.keep hd id;have tN:yE w2 d bad:=by rw[eC];exact cg AZ 0 (.bool bad)
   have dF:Fr (one d) w1 w2:=by rw[eC];exact(ae (one d) w1).setCell (p:=⟨d,0,none⟩) (fun _=>rfl) _
   have jX:vr B b l w2:=(h.i_ dw).off dF (fun e=>hne e.symm) (fun g cur fz hg e=>by have e':g=d:=e;subst e';rw[AZ]at hg;injection hg with hg;injection hg with _ hg;exact absurd hg ag);have qe:=O (show Below B w w2 from((oa dw).mono hB).trans (by rw[eC];exact(Below.refl B w1).setCell (p:=⟨d,0,none⟩) Ld _));have ow:=O eC;clear eC dw dF AZ;have hee:(⟨(fK v).toArray⟩:ai)=bA (fK v):=rfl;rw[hee]
   cases bad with
   |true =>
    go_wp2_with fail
    rw[<-ow.o];refine(vt B b l w2 jX).mono ?_;rintro e wl⟨rfl,rfl⟩;by_cases h7:7<l.length
    ·have WX:(7:Int)<(l.length:Int):=ab;go_wp2_with fail
     refine(eb B b l ⟨#[44,32]⟩ w2 jX (by show l.length+2<=_;omega) (aH hB (qe.o).size)).mono ?_;rintro e wx⟨rfl,rh,Ev,Ci⟩;have O5:=(tN).Lx Ci hne;have td:=O ((qe.o).trans Ev);clear Ci Ev;go_wp2_with fail
     rw[show bA nm++⟨#[61]⟩++bA (fK v)=bA (nm++61 :: (fK v))from VQ nm (fK v)];refine(eb B b _ (bA (nm++61 :: (fK v))) wx rh (by show(l++[44,32]).length+(nm++61 :: (fK v)).length<=_;simp;omega) (aH hB td.o.size)).mono ?_;rintro e wy⟨rfl,qC,EF,Gc⟩;have Gd:=O5.Lx Gc hne;go_wp2;go_end0;refine⟨rfl,?_,(by rw[WY];exact Gd),td.o.trans EF⟩
     have e:qb l nm (fK v)=l++(⟨#[44,32]⟩:ai).data.toList++(bA (nm++61 :: (fK v))).data.toList:=by unfold qb;rw[aB h7,fM];simp
     rw[Rb,e];exact qC
    ·have WX:¬(7:Int)<(l.length:Int):=ab;go_wp2_with fail
     rw[show bA nm++⟨#[61]⟩++bA (fK v)=bA (nm++61 :: (fK v))from VQ nm (fK v)];refine(eb B b l (bA (nm++61 :: (fK v))) w2 jX (by show l.length+(nm++61 :: (fK v)).length<=_;simp;omega) (aH hB (qe.o).size)).mono ?_;rintro e wy⟨rfl,qC,EF,Gc⟩;have Gd:=(tN).Lx Gc hne;go_wp2;go_end0;refine⟨rfl,?_,(by rw[WY];exact Gd),(qe.o).trans EF⟩
     have e:qb l nm (fK v)=l++(bA (nm++61 :: (fK v))).data.toList:=by unfold qb;rw[ay h7,fM];simp
     rw[Rb,e];exact qC
   |false =>
    go_wp2_with fail
    rw[<-ow.o];refine(vt B b l w2 jX).mono ?_;rintro e wl⟨rfl,rfl⟩;by_cases h7:7<l.length
    ·have WX:(7:Int)<(l.length:Int):=ab;go_wp2_with fail
     refine(eb B b l ⟨#[44,32]⟩ w2 jX (by show l.length+2<=_;omega) (aH hB (qe.o).size)).mono ?_;rintro e wx⟨rfl,rh,Ev,Ci⟩;have O5:=(tN).Lx Ci hne;have td:=O ((qe.o).trans Ev);clear Ci Ev;go_wp2_with fail
     rw[show bA nm++⟨#[61]⟩++bA (fK v)=bA (nm++61 :: (fK v))from VQ nm (fK v)];refine(eb B b _ (bA (nm++61 :: (fK v))) wx rh (by show(l++[44,32]).length+(nm++61 :: (fK v)).length<=_;simp;omega) (aH hB td.o.size)).mono ?_;rintro e wy⟨rfl,qC,EF,Gc⟩;have Gd:=O5.Lx Gc hne;go_wp2;go_end0;refine⟨rfl,?_,(by rw[WY];exact Gd),td.o.trans EF⟩
     have e:qb l nm (fK v)=l++(⟨#[44,32]⟩:ai).data.toList++(bA (nm++61 :: (fK v))).data.toList:=by unfold qb;rw[aB h7,fM];simp
     rw[Rb,e];exact qC
    ·have WX:¬(7:Int)<(l.length:Int):=ab;go_wp2_with fail
     rw[show bA nm++⟨#[61]⟩++bA (fK v)=bA (nm++61 :: (fK v))from VQ nm (fK v)];refine(eb B b l (bA (nm++61 :: (fK v))) w2 jX (by show l.length+(nm++61 :: (fK v)).length<=_;simp;omega) (aH hB (qe.o).size)).mono ?_;rintro e wy⟨rfl,qC,EF,Gc⟩;have Gd:=(tN).Lx Gc hne;go_wp2;go_end0;refine⟨rfl,?_,(by rw[WY];exact Gd),(qe.o).trans EF⟩
     have e:qb l nm (fK v)=l++(bA (nm++61 :: (fK v))).data.toList:=by unfold qb;rw[ay h7,fM];simp
     rw[Rb,e];exact qC
  |false =>
   have Rb:zP true v=[]:=by unfold zP;rw[ht];rfl
   have WY:zQ true v=true:=by unfold zQ;rw[ht];rfl
   have z4:(bA []).size=0:=rfl;go_enter func106,ntmps106;go_wp2_with fail
   refine(Eh (bA v) w ab).mono ?_;rintro e w1⟨rfl,dw⟩;rw[fM,ht];simp only[cJ,eT];obtain⟨k0,k1⟩:=Sq.o w1 dw;obtain⟨w2,eC⟩:∃w2,w2=w1.setCell ⟨d,0,none⟩ (.bool true):=⟨_,rfl⟩;have AZ:=dw.keep hd id;have tN:yE w2 d true:=by rw[eC];exact cg AZ 0 (.bool true)
   have dF:Fr (one d) w1 w2:=by rw[eC];exact(ae (one d) w1).setCell (p:=⟨d,0,none⟩) (fun _=>rfl) _
   have jX:vr B b l w2:=(h.i_ dw).off dF (fun e=>hne e.symm) (fun g cur fz hg e=>by have e':g=d:=e;subst e';rw[AZ]at hg;injection hg with hg;injection hg with _ hg;exact absurd hg ag);have qe:=O (show Below B w w2 from((oa dw).mono hB).trans (by rw[eC];exact(Below.refl B w1).setCell (p:=⟨d,0,none⟩) Ld _));have ow:=O eC;clear eC dw dF AZ;have hee:(⟨#[]⟩:ai)=bA []:=rfl;rw[hee];cases bad with
   |true =>
    go_wp2_with fail
    rw[<-ow.o];refine(vt B b l w2 jX).mono ?_;rintro e wl⟨rfl,rfl⟩;by_cases h7:7<l.length
    ·have WX:(7:Int)<(l.length:Int):=ab;go_wp2_with fail
     refine(eb B b l ⟨#[44,32]⟩ w2 jX (by show l.length+2<=_;omega) (aH hB (qe.o).size)).mono ?_;rintro e wx⟨rfl,rh,Ev,Ci⟩;have O5:=(tN).Lx Ci hne;have td:=O ((qe.o).trans Ev);clear Ci Ev;go_wp2_with fail
     rw[show bA nm++⟨#[61]⟩++bA []=bA (nm++61 :: [])from VQ nm []];refine(eb B b _ (bA (nm++61 :: [])) wx rh (by show(l++[44,32]).length+(nm++61 :: []).length<=_;simp;omega) (aH hB td.o.size)).mono ?_;rintro e wy⟨rfl,qC,EF,Gc⟩;have Gd:=O5.Lx Gc hne;go_wp2;go_end0;refine⟨rfl,?_,(by rw[WY,kd];exact Gd),td.o.trans EF⟩
     have e:qb l nm []=l++(⟨#[44,32]⟩:ai).data.toList++(bA (nm++61 :: [])).data.toList:=by unfold qb;rw[aB h7,fM];simp
     rw[Rb,e];exact qC
    ·have WX:¬(7:Int)<(l.length:Int):=ab;go_wp2_with fail
     rw[show bA nm++⟨#[61]⟩++bA []=bA (nm++61 :: [])from VQ nm []];refine(eb B b l (bA (nm++61 :: [])) w2 jX (by show l.length+(nm++61 :: []).length<=_;simp;omega) (aH hB (qe.o).size)).mono ?_;rintro e wy⟨rfl,qC,EF,Gc⟩;have Gd:=(tN).Lx Gc hne;go_wp2;go_end0;refine⟨rfl,?_,(by rw[WY,kd];exact Gd),(qe.o).trans EF⟩;have e:qb l nm []=l++(bA (nm++61 :: [])).data.toList:=by unfold qb;rw[ay h7,fM];simp
     rw[Rb,e];exact qC
   |false =>
    go_wp2_with fail
    rw[<-ow.o];refine(vt B b l w2 jX).mono ?_;rintro e wl⟨rfl,rfl⟩;by_cases h7:7<l.length
    ·have WX:(7:Int)<(l.length:Int):=ab;go_wp2_with fail
     refine(eb B b l ⟨#[44,32]⟩ w2 jX (by show l.length+2<=_;omega) (aH hB (qe.o).size)).mono ?_;rintro e wx⟨rfl,rh,Ev,Ci⟩;have O5:=(tN).Lx Ci hne;have td:=O ((qe.o).trans Ev);clear Ci Ev;go_wp2_with fail
     rw[show bA nm++⟨#[61]⟩++bA []=bA (nm++61 :: [])from VQ nm []];refine(eb B b _ (bA (nm++61 :: [])) wx rh (by show(l++[44,32]).length+(nm++61 :: []).length<=_;simp;omega) (aH hB td.o.size)).mono ?_;rintro e wy⟨rfl,qC,EF,Gc⟩;have Gd:=O5.Lx Gc hne;go_wp2;go_end0;refine⟨rfl,?_,(by rw[WY,kd];exact Gd),td.o.trans EF⟩
     have e:qb l nm []=l++(⟨#[44,32]⟩:ai).data.toList++(bA (nm++61 :: [])).data.toList:=by unfold qb;rw[aB h7,fM];simp
     rw[Rb,e];exact qC
    ·have WX:¬(7:Int)<(l.length:Int):=ab;go_wp2_with fail
     rw[show bA nm++⟨#[61]⟩++bA []=bA (nm++61 :: [])from VQ nm []];refine(eb B b l (bA (nm++61 :: [])) w2 jX (by show l.length+(nm++61 :: []).length<=_;simp;omega) (aH hB (qe.o).size)).mono ?_;rintro e wy⟨rfl,qC,EF,Gc⟩;have Gd:=(tN).Lx Gc hne;go_wp2;go_end0;refine⟨rfl,?_,(by rw[WY,kd];exact Gd),(qe.o).trans EF⟩;have e:qb l nm []=l++(bA (nm++61 :: [])).data.toList:=by unfold qb;rw[ay h7,fM];simp
     rw[Rb,e];exact qC
def aU.used(g:aU D):aU D:={g with count:=g.count+1}
def uU(gs:List (aU bG))(o:gz)(proxy:Bool)(path:ai):List (aU bG)×Except Nat (aU bG) :=
 if 0<=tz gs o proxy path then
  match gs[(tz gs o proxy path).toNat]? with
  |some g =>
   let l:=gs.take (tz gs o proxy path).toNat++gs.drop ((tz gs o proxy path).toNat+1)
   if 4294967295<=g.count then(l,.error 12)else(l++[g.used],.ok g.used)
  |none=>(gs,.error 8)
 else(gs,.error 8)
def qI(base:Nat)(w:World)(b:Nat)(gv wv:Value)(ws:List (bL bG))(u:List (aU bG)×Except Nat (aU bG))(e:Ending)(w':World):Prop :=
 kp base w b gv wv u.1 ws w'/\match u.2 with
 | .error n=>e=.returned (.tuple #[.agg fc,.iface 82 (.int .i64 n)])
 | .ok g=>∃r:aU Value,e=.returned (.tuple #[.agg r.cells.toArray,.nilIface])/\r.Reads (df base w') g/\∀u∈r.cells,u.oneCell'=true
theorem kp.same{base:Nat}{gv wv:Value}{gs:List (aU bG)}{ws:List (bL bG)}(h:dC base w b gv wv gs ws)(hf:Fr aX w w'):kp base w b gv wv gs ws w' :=
 ⟨gv,wv,h.dx hf,hf.mono (fun _ _ h=>absurd h id),fun _ hk=>Or.inl hk⟩
theorem L0{base:Nat}{w5 w6:World}{b gg cap i n:Nat}{wv:Value}{ls:List (aU bG)}{ws:List (bL bG)}{rs:List (aU Value)}(h5:dC base w5 b (.slice (some ⟨gg,0,none⟩) ls.length cap) wv ls ws)
  (hb:ld (aU.Reads (df base w5)) rs ls)(yD:OwnRows base 133 16 w6 (.slice (some ⟨gg,0,none⟩) (i+(ls.length-n)) cap) ((rs.map aU.cells).take i++(rs.map aU.cells).drop n))(nt:Fr (one gg) w5 w6) :
  dC base (w6.setCell ⟨b,0,none⟩ (.slice (some ⟨gg,0,none⟩) (i+(ls.length-n)) cap)) b (.slice (some ⟨gg,0,none⟩) (i+(ls.length-n)) cap) wv (ls.take i++ls.drop n) ws /\
  Fr (dk b (.slice (some ⟨gg,0,none⟩) ls.length cap) wv) w5 (w6.setCell ⟨b,0,none⟩ (.slice (some ⟨gg,0,none⟩) (i+(ls.length-n)) cap))/\w6.cell? ⟨b,0,none⟩=some (.slice (some ⟨gg,0,none⟩) ls.length cap)/\w6.frozen? ⟨b,0,none⟩=false:=by
 have kO:=h5.low;have ec:∀k,one gg k->own (.slice (some ⟨gg,0,none⟩) ls.length cap) k:=fun k hk=>by have e:k=gg:=hk;rw[e];rfl
 have mJ:rJ base w5 (one gg):=fun k hk hl=>h5.off k (Or.inr (Or.inl (ec k hk))) hl;have su:=nt.keep h5.eK (fun h=>h5.gb (ec _ h));have yU:jY base w6 wv ws:=h5.waits.fr nt mJ (fun k hk hg=>h5.gw (ec _ hg) hk);have hm:=hb.mono (fun _ _ h=>h.mono (fun _ _ h=>h.fr nt mJ));have hg6:g_ base w6 (.slice (some ⟨gg,0,none⟩) (i+(ls.length-n)) cap) (ls.take i++ls.drop n):=by
  refine⟨rs.take i++rs.drop n,?_,(hm.take i).app (hm.drop n)⟩;rw[bI,List.map_take,List.map_drop];exact yD
 have Sn:Fr (dk b (.slice (some ⟨gg,0,none⟩) ls.length cap) wv) w5 w6:=nt.mono (fun k _ hk=>Or.inr (Or.inl (ec k hk)));exact⟨nx kO su hg6 yU,Sn.setCell (p:=⟨b,0,none⟩) (fun _=>Or.inl rfl) _,by simp[World.cell?,su],by simp[World.frozen?,su]⟩
theorem XA(base:Nat)(w:World)(b:Nat)(gv wv:Value)(gs:List (aU bG))(ws:List (bL bG))(o:gz)(proxy:Bool)(path:ai)(h:dC base w b gv wv gs ws)(LV:gs.length<34359738368)(hcn:∀g∈gs,0<=g.count) :
  aE 70 #[.pointer (some ⟨b,0,none⟩),.agg o.cells.toArray,.bool proxy,.string path] w (qI base w b gv wv ws (uU gs o proxy path)):=by
 unfold gz.cells;have tK:=h.lt;have kO:=h.low;have oL:Fr aX w _:=((ae aX w).alloc (.cells #[.bool o.aD,.string o.host,.int .i64 o.port] 24)).alloc (.cells fc 133);have b1:=aC (w.alloc (.cells #[.bool o.aD,.string o.host,.int .i64 o.port] 24)) (.cells fc 133);rw[show(w.alloc (.cells #[.bool o.aD,.string o.host,.int .i64 o.port] 24)).heap.size=w.heap.size+1 from aS]at b1;have h1:=h.dx oL
 have ZT:=O (Td base _ b gv wv gs ws o proxy path h1);have Tl:=O b1;clear b1;go_enter func70,ntmps70;go_wp2_with fail
 generalize (w.alloc (.cells _ 24)).alloc _=W at *
 refine ZT.o.mono ?_;rintro e u1⟨rfl,dw⟩;have Tf:=O (dw.keep Tl.o id);have HF:=oL.trans dw;have h2:=h1.dx dw;clear ZT Tl oL dw h1;have zB:w.heap.size+1<u1.heap.size:=bg Tf.o;rcases Th gs o proxy path with ⟨k,hk,he⟩|he
 ·obtain⟨bk,c,dF,se,r,ec,hr,hcell⟩:=h2.bZ.at hk;subst dF;unfold maxLen at se;have d0:=h2.c0;obtain⟨x,hx⟩:∃x,x=r.cells:=⟨_,rfl⟩;have lI:x.length=16:=by rw[hx];rfl
  have iQ:=fun W=>run_storeCells_new (P:=prog) W 133 #[.bool false,.string ⟨#[]⟩,.int .i64 0,.bool false,.string ⟨#[]⟩,.string ⟨#[]⟩,.int .i64 0,.string ⟨#[]⟩,.string ⟨#[]⟩,.string ⟨#[]⟩,.bool false,.string ⟨#[]⟩,.bool false,.slice none 0 0,.int .i64 0,.slice none 0 0] x (by rw[lI];rfl) (by rw[hx];exact ec);have ET:=O (show(prog.info? 133).map (·.size)=some x.length by rw[lI];kernel_rfl)
  have L5:r.count=gs[k].count:=hr.2.2.2.2.2.1;have Xr:0<=r.count:=by rw[L5];exact hcn _ (bQ hk)
  have HX:=O hx;have HE:=O he;rw[<-hx]at hcell;have hub:b<u1.heap.size:=h2.lt;have ix:Fr aX u1 (u1.alloc (.cells x.toArray 133)):=(ae aX u1).alloc _;have rh:(u1.alloc (.cells x.toArray 133)).heap[u1.heap.size]?=some (.cells x.toArray 133 (0,0)):=aC _ _;have h3:=h2.dx ix;have rf:=hr.mono (fun _ _ h=>h.dx ix);obtain⟨rs,ho,hb⟩:=h3.bZ;have uM:=O (show(rs.map aU.cells).length=gs.length by rw[aj,hb.len])
  have qi:=O (EX base bk c k (k+1) (rs.map aU.cells) _ (by rw[uM.o];exact ho) ab (by rw[uM.o];omega));rw[uM.o,show((k+1:Nat):Int)=(k:Int)+1 from ab]at qi;have alB:bk<u1.heap.size:=by
   obtain⟨cc,e⟩:=h2.tB (k:=bk) rfl;exact bg e
  have td:=O rh;have HCO:=O L5;have Tm:=O rf;have wH:=O ec;rw[he];clear hx he rh L5 hr rf ec h2;go_wp2_with (first|((with_reducible refine dt 27 ?_);refine bu rfl 133 (.tmp 26) rfl bk (k*16) rfl x _ hcell underlying133 rfl ET.o ?_)|fail)
  clear iQ hcell d0;have im:base<=u1.heap.size:=ab;have PF:Fr aX w (u1.alloc (.cells x.toArray 133)):=HF.alloc _;have Ev:u1.heap.size<(u1.alloc (.cells x.toArray 133)).heap.size:=aS;have b1v:=O (ix.keep Tf.o id);generalize u1.alloc (.cells x.toArray 133)=V at *
  refine qi.o.mono ?_;rintro e w2⟨rfl,qD,dF⟩;obtain⟨h4,Rm,d2,e2⟩:=L0 h3 hb (by exact qD) dF;obtain⟨l,hl⟩:∃l,l=gs.take k++gs.drop (k+1):=⟨_,rfl⟩;have hm:k+(gs.length-(k+1))=l.length:=by rw[hl,aM,aQ,bJ];omega
  have hlen:l.length<=gs.length:=ab;rw[<-hl]at h4;rw[hm]at h4 Rm ⊢;have HL:=O hl;clear hl hm;have JA:rJ base V (own (.slice (some ⟨bk,0,none⟩) gs.length c)):=ho.off (az _) ag;have JB:rJ base V (one bk):=fun j hj hl=>JA j (by have e:j=bk:=hj;rw[e];rfl) hl;have yV:=dF.keep td.o (fun h=>by have e:u1.heap.size=bk:=h;omega)
  have Tn:=dF.keep b1v.o (fun hh=>by have e:w.heap.size+1=bk:=hh;obtain⟨cc,e2⟩:=h.tB (k:=bk) rfl;have:=bg e2;omega);have u0:=Tm.o.mono (fun _ _ h=>h.fr dF JB);have c14:w2.cell? ⟨u1.heap.size,14,none⟩=some (.int .i64 r.count):=by
   have e:=HX.o;simp only[World.cell?,yV,e];rfl
  have f14:w2.frozen? ⟨u1.heap.size,14,none⟩=false:=by simp[World.frozen?,yV]
  have Tp:w2.heap[b]?=some (.cells #[.slice (some ⟨bk,0,none⟩) gs.length c,wv] 118 (0,0)):=dF.keep h3.eK (fun h=>h3.gb (by have e:b=bk:=h;rw[e];rfl));have kf:Fr (one b) w2 (w2.setCell ⟨b,0,none⟩ (.slice (some ⟨bk,0,none⟩) l.length c)):=(ae (one b) w2).setCell (p:=⟨b,0,none⟩) (fun _=>rfl) _;have Tq:rJ base w2 (one b):=by
   rintro j rfl _;exact⟨kO,fun cc f e=>by rw[Tp]at e;cases e⟩
  have CU:=kf.keep yV (fun h=>by have e:u1.heap.size=b:=h;omega);have PG:=kf.keep Tn (fun h=>by have e:w.heap.size+1=b:=h;omega);have AF:=u0.mono (fun _ _ h=>h.fr kf Tq);have hFw:Fr (dk b (.slice (some ⟨bk,0,none⟩) gs.length c) wv) w (w2.setCell ⟨b,0,none⟩ (.slice (some ⟨bk,0,none⟩) l.length c)):=fN (PF.mono (fun _ _ h=>absurd h id)) Rm (fun _ _ h=>h)
  have kL:∀j,dk b (.slice (some ⟨bk,0,none⟩) l.length c) wv j->dk b (.slice (some ⟨bk,0,none⟩) gs.length c) wv j:=fun j hj=>by
   rcases hj with h|h|h
   ·exact Or.inl h
   ·exact Or.inr (Or.inl h)
   ·exact Or.inr (Or.inr h)
  have H4:=O h4;have rm:=O hFw
  try clear qi
  try clear qD
  try clear ho
  try clear hb
  try clear Tp
  try clear kf
  try clear Tq
  try clear yV
  try clear Tn
  try clear u0
  try clear Rm
  try clear JB
  try clear JA
  try clear h3
  try clear PF
  try clear Rm
  try clear td
  try clear Tm
  try clear b1v
  try clear Tf
  try clear HF
  try clear h4
  try clear hFw
  have abR:=O CU;have Tr:=O PG;clear CU PG;by_cases ZV:4294967295<=r.count
  ·have hu:=O (show uU gs o proxy path=(l,.error 12)by
    rw[HL.o];unfold uU;rw[HE.o,aB ab,show((k:Int)).toNat=k from aS,List.getElem?_eq_getElem hk];simp only;rw[<-HCO.o,aB ZV])
   go_wp2_with (first|((with_reducible refine cU 133 ?_);refine aI rfl 133 (.tmp 8) (.tmp 42) rfl (w.heap.size+1) fc rfl rfl _ fc Tr.o af rfl xK ?_)|fail)
   refine aR (results_cell_tmp bB _ _ (w.heap.size+1) 133 fc (0,0) _ rfl (aY _ (w.heap.size+1) _ _ _ _ Tr.o) underlying133 rfl af) rfl ?_;unfold qI;rw[hu.o];have hFr:Fr (one (w.heap.size+1)) (w2.setCell ⟨b,0,none⟩ (.slice (some ⟨bk,0,none⟩) l.length c)) ((w2.setCell ⟨b,0,none⟩ (.slice (some ⟨bk,0,none⟩) l.length c)).setRow (w.heap.size+1) fc):=(ae (one (w.heap.size+1)) _).setRow (fun _=>rfl) _
   have hne:∀j,dk b (.slice (some ⟨bk,0,none⟩) gs.length c) wv j->j<w.heap.size:=fun j hj=>by
    rcases hj with hj|hj|hj
    ·omega
    ·obtain⟨cc,e⟩:=h.tB hj;exact bg e
    ·obtain⟨cc,e⟩:=h.vJ hj;exact bg e
   refine⟨⟨_,_,H4.o.fr hFr ?_ ?_ ?_ ?_,rm.o.step hFr ?_,fun j hj=>Or.inl (kL j hj)⟩,rfl⟩
   ·rintro j rfl _;exact⟨ab,fun cc f e=>by rw[Tr.o]at e;cases e⟩
   ·intro hh;have e:b=w.heap.size+1:=hh;omega
   ·intro j hj hh;have e:j=w.heap.size+1:=hh;have:=hne j (kL j (Or.inr (Or.inl hj)));omega
   ·intro j hj hh;have e:j=w.heap.size+1:=hh;have:=hne j (kL j (Or.inr (Or.inr hj)));omega
   ·intro j hj hh;have e:j=w.heap.size+1:=hh;omega
  ·have hu:=O (show uU gs o proxy path=(l++[gs[k].used],.ok gs[k].used)by
    rw[HL.o];unfold uU;rw[HE.o,aB ab,show((k:Int)).toNat=k from aS,List.getElem?_eq_getElem hk];simp only;rw[<-HCO.o,ay ZV])
   have hne:∀j,dk b (.slice (some ⟨bk,0,none⟩) gs.length c) wv j->j<w.heap.size:=fun j hj=>by
    rcases hj with hj|hj|hj
    ·omega
    ·obtain⟨cc,e⟩:=h.tB hj;exact bg e
    ·obtain⟨cc,e⟩:=h.vJ hj;exact bg e
   go_wp2_with fail
   clear d2 e2 c14 f14;generalize w2.setCell ⟨b,0,none⟩ (.slice (some ⟨bk,0,none⟩) l.length c)=w3 at *
   have afU:(w3.setCell ⟨u1.heap.size,14,none⟩ (.int .i64 (r.count+1))).heap[u1.heap.size]?=some (.cells r.used.cells.toArray 133 (0,0)):=by
    have e:=abR.o;rw[HX.o]at e;exact cg e 14 _
   have Ij:Fr (one u1.heap.size) w3 (w3.setCell ⟨u1.heap.size,14,none⟩ (.int .i64 (r.count+1))):=(ae (one u1.heap.size) w3).setCell (p:=⟨u1.heap.size,14,none⟩) (fun _=>rfl) _;have abS:rJ base w3 (one u1.heap.size):=by
    rintro j rfl _;exact⟨im,fun cc f e=>by rw[abR.o]at e;cases e⟩
   have p9:¬dk b (.slice (some ⟨bk,0,none⟩) l.length c) wv u1.heap.size:=fun hh=>by
    have:=hne _ (kL _ hh);omega
   have h5:=H4.o.fr Ij abS (fun hh=>by have e:b=u1.heap.size:=hh;omega) (fun j hj hh=>by have e:j=u1.heap.size:=hh;subst e;exact p9 (Or.inr (Or.inl hj))) (fun j hj hh=>by have e:j=u1.heap.size:=hh;subst e;exact p9 (Or.inr (Or.inr hj)));have Hi:aU.Reads (df base (w3.setCell ⟨u1.heap.size,14,none⟩ (.int .i64 (r.count+1)))) r.used gs[k].used:=by
    obtain⟨q1,q2,q3,q4,q5,q6,q7⟩:=AF.mono (fun _ _ h=>h.fr Ij abS);exact⟨q1,q2,q3,q4,q5,by show r.count+1=gs[k].count+1;rw[q6],q7⟩
   have afV:=O (Ij.keep Tr.o (fun hh=>by have e:w.heap.size+1=u1.heap.size:=hh;omega));have abT:Fr (dk b (.slice (some ⟨bk,0,none⟩) gs.length c) wv) w (w3.setCell ⟨u1.heap.size,14,none⟩ (.int .i64 (r.count+1))):=rm.o.step Ij (fun j hj hh=>by have e:j=u1.heap.size:=hh;omega);have ZW:∀u∈r.used.cells,u.oneCell'=true:=by
    intro u hu;simp only[aU.cells,aU.used,bE,bU,dL]at hu;have ho:=wH.o;simp only[aU.cells,bE,bU,dL]at ho;rcases hu with rfl|rfl|rfl|rfl|rfl|rfl|rfl|rfl|rfl|rfl|rfl|rfl|rfl|rfl|rfl|rfl<;>first|rfl|exact ho _ aS
   have ZX:=O ZW;have abU:=O afU;have Hn:=O Hi;have arI:w.heap.size<=w3.heap.size:=rm.o.size;clear ZW AF Ij abS abR Tr H4 rm afU Hi;generalize w3.setCell ⟨u1.heap.size,14,none⟩ (.int .i64 (r.count+1))=w4 at *
   have nZ:∀i u,r.used.cells[i]?=some u->w4.cell? ⟨u1.heap.size,i,none⟩=some u:=fun i u hu=>by
    simp only[World.cell?,abU.o];simpa using hu
   have x0:=nZ 0 _ rfl;have x1:=nZ 1 _ rfl;have x2:=nZ 2 _ rfl;have x3:=nZ 3 _ rfl;have x4:=nZ 4 _ rfl;have x5:=nZ 5 _ rfl;have x6:=nZ 6 _ rfl;have x7:=nZ 7 _ rfl;have x8:=nZ 8 _ rfl;have x9:=nZ 9 _ rfl;have Xy:=nZ 10 _ rfl;have Xz:=nZ 11 _ rfl;have x12:=nZ 12 _ rfl;have x13:=nZ 13 _ rfl;have x14:=nZ 14 _ rfl;have x15:=nZ 15 _ rfl;have d0:=h5.c0;have e0:=h5.free 0;have uP:b<w4.heap.size:=h5.lt
   have WN:u1.heap.size<w4.heap.size:=bg abU.o;obtain⟨i0,rL,pA,kP,kR⟩:=info_parts xJ;obtain⟨rs5,KT,D6⟩:=h5.bZ;have HO5:=O KT;have HB5:=O D6;have JC:w4.ownsRow base 133 16 (.slice (some ⟨bk,0,none⟩) l.length c) l.length (rs5.map aU.cells).flatten:=by
    have hh:=KT.2;rw[aj,D6.len]at hh;exact hh
   have zz:¬own (.slice (some ⟨bk,0,none⟩) l.length c) b:=h5.gb;clear KT D6 nZ;simp only[aU.used]at x0 x1 x2 x3 x4 x5 x6 x7 x8 x9 Xy Xz x12 x13 x14 x15
   go_region_law ((with_reducible refine mF ⟨some 55,_,_,_,_,_⟩ ?_)
                  refine step_append_lies _ bB _ _ _ bB base 133 i0 _ 16 216 underlying85 rL pA kP kR rfl ab (.slice (some ⟨bk,0,none⟩) l.length c) l.length _ bB (by repeat(first|exact JC|apply World.ownsRow.alloc|apply World.ownsRow.drew)) ⟨w4.heap.size,0,none⟩ 1 1 r.used.cells bB bB (ky w4 r.used.cells _) ZX.o ab ft ab bH (w4.heap.size+1) aS ?_
                  intro gg cap w5 vA jq dT abh
                  have qG:Fr (own (.slice (some ⟨bk,0,none⟩) l.length c)) w4 w5:=fg (by repeat(first|exact ae _ _|apply aA|apply bq)) jq (fun _ hk _=>hk)
                  have k4:w5.cell? ⟨b,0,none⟩=some (.slice (some ⟨bk,0,none⟩) l.length c):=(qG.cell (p:=⟨b,0,none⟩) uP zz).trans d0
                  have e4:w5.frozen? ⟨b,0,none⟩=false:=(qG.frozen (p:=⟨b,0,none⟩) uP zz).trans e0)
   all_goals
    obtain⟨h6,hF6,D5⟩:=EZ (m:=gs[k].used) h5 HO5.o HB5.o (ae _ _) Hn.o ZX.o qG vA (dT.imp id (fun h=>ab));have hnr:¬dk b (.slice (some ⟨bk,0,none⟩) l.length c) wv (w.heap.size+1):=fun hh=>by have:=hne _ (kL _ hh);omega
    have afX:=O (hF6.keep abU.o p9);have alC:=O (hF6.keep afV.o hnr);have Q':=Hn.o.mono (fun _ _ h=>h.fr hF6 h5.off);have alD:=O (abT.step hF6 (fun j hj hb=>kL j hb));have XB:∀j,dk b (.slice (some ⟨gg,0,none⟩) (l.length+1) cap) wv j->dk b (.slice (some ⟨bk,0,none⟩) gs.length c) wv j\/w.heap.size<=j:=fun j hj=>by
     rcases D5 j hj with h|h
     ·exact Or.inl (kL j h)
     ·exact Or.inr (by have:=abT.size;omega)
    have H6:=O h6;have Bj:base<=(w5.setCell ⟨b,0,none⟩ (.slice (some ⟨gg,0,none⟩) (l.length+1) cap)).heap.size:=by have:=h6.lt;omega
    have fF:=O (uf base r.used gs[k].used _ Bj Q');clear x0 x1 x2 x3 x4 x5 x6 x7 x8 x9 Xy Xz x12 x13 x14 x15 d0 e0 k4 e4 jq vA JC h6 hF6 Q' qG h5 Bj;generalize w5.setCell ⟨b,0,none⟩ (.slice (some ⟨gg,0,none⟩) (l.length+1) cap)=w6 at *
    obtain⟨y,hy⟩:∃y,y=r.used.cells:=⟨_,rfl⟩;have Ew:y.length=16:=by rw[hy];rfl
    rw[<-hy]at afX fF;have hyi:=O (show(prog.info? 133).map (·.size)=some y.toArray.size by rw[bd,Ew];kernel_rfl);clear hy;go_wp2_with (first|((with_reducible refine dt 58 ?_);refine aJ rfl 133 (.tmp 11) rfl u1.heap.size rfl _ y.toArray (0,0) _ afX.o underlying133 rfl hyi.o ?_)|fail)
    refine fF.o.mono ?_;intro e w7 LW;obtain⟨r7,rfl,Q',Ts,nY⟩:=LW;have b7:=O (nY.keep alC.o id);have h7:=H6.o.dx nY;have Rl:=alD.o.trans (nY.mono (fun _ _ h=>absurd h id));have Bd:(prog.info? 133).map (·.size)=some r7.cells.toArray.size:=af;obtain⟨z,hz⟩:∃z,z=r7.cells:=⟨_,rfl⟩;have HZ:=O hz;have afY:=O Ts;rw[<-hz]at Bd Ts ⊢;have kP:=O (cE Ts);have VP:=O (show fc.size=z.toArray.size by rw[hz];rfl)
    clear hz fF;go_wp2_with (first|((with_reducible refine cU 133 ?_);refine aI rfl 133 (.tmp 8) (.tmp 59) rfl (w.heap.size+1) z.toArray rfl rfl _ fc b7.o Bd VP.o kP.o ?_)|fail)
    have ru:rJ base w7 (one (w.heap.size+1)):=by
     rintro j rfl hj;exact⟨ab,fun c f e=>by rw[b7.o]at e;cases e⟩
    have kx:Fr (one (w.heap.size+1)) w7 (w7.setRow (w.heap.size+1) z.toArray):=(ae (one (w.heap.size+1)) w7).setRow (fun _=>rfl) _;refine aR (results_cell_tmp bB _ _ (w.heap.size+1) 133 z.toArray (0,0) _ rfl (aY w7 (w.heap.size+1) _ _ _ _ b7.o) underlying133 rfl Bd) rfl ?_;have abW:¬dk b (.slice (some ⟨gg,0,none⟩) (l.length+1) cap) wv (w.heap.size+1):=fun hh=>by
     have hk7:∃cc t f,w7.heap[w.heap.size+1]?=some (.cells cc t f):=⟨_,_,_,b7.o⟩;rcases D5 _ hh with h8|h8
     ·exact hnr h8
     ·have:=abT.size;have:=bg afV.o;omega
    unfold qI;rw[hu.o];rw[HZ.o]at *
    refine⟨⟨_,_,h7.fr kx ru (fun hh=>abW (Or.inl (by have e:b=w.heap.size+1:=hh;rw[e]))) (fun j hj hh=>abW (Or.inr (Or.inl (by have e:j=w.heap.size+1:=hh;rw[<-e];exact hj)))) (fun j hj hh=>abW (Or.inr (Or.inr (by have e:j=w.heap.size+1:=hh;rw[<-e];exact hj)))),Rl.step kx (fun j hj hh=>by have e:j=w.heap.size+1:=hh;omega),XB⟩,r7,rfl,Q'.mono (fun _ _ h=>h.fr kx ru),afY.o⟩
 ·have hu:=O (show uU gs o proxy path=(gs,.error 8)by unfold uU;rw[he];rfl);rw[he];have hp:=kp.same h (HF.setRow (g:=w.heap.size+1) (fun h=>absurd h ab) fc);clear h2 h;go_wp2_with (first|((with_reducible refine cU 133 ?_);refine aI rfl 133 (.tmp 8) (.tmp 19) rfl (w.heap.size+1) fc rfl rfl _ fc Tf.o af rfl xK ?_)|fail)
  refine aR (results_cell_tmp bB _ _ (w.heap.size+1) 133 fc (0,0) _ rfl (aY u1 (w.heap.size+1) _ _ _ _ Tf.o) underlying133 rfl af) rfl ?_;unfold qI;rw[hu.o];exact⟨hp,rfl⟩
