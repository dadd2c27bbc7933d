/- Lemmas for the law's walk. -/
import Derived.Test.YtjndhcngnghpiaaGreatDoorPo9
set_option maxRecDepth 100000
set_option maxHeartbeats 16000000
set_option linter.unusedSimpArgs false
namespace Go.Proofs.YtjndhcngnghpiaaGreatDoor
open Go.Proofs.Tryz
open Go.RowKit
variable {D:Type} {k B b:Nat} {l:aH} {w w':World}
def uW(gs:List (aU bE))(g:aU bE):List (aU bE) :=
 let l:=gs.filter (fun x=>!mP g.o g.proxy g.a.aP x)++[g]
 l.drop (l.length-8)
def GX(base:Nat)(w:World)(b:Nat)(gv wv:Value)(gs:List (aU bE))(ws:List (bJ bE))(e:Ending)(w':World):Prop :=
 e=.returned (.tuple #[])/\km base w b gv wv gs ws w'
theorem Fu{base:Nat}{w2 w3 w4:World}{b:Nat}{gv wv:Value}{fs:List (aU bE)}{ws:List (bJ bE)}{m:aU bE}{r3:aU Value}{rs:List (aU Value)}{gg cap:Nat}(h2:dB base w2 b gv wv fs ws)
  (ho:OwnRows base 133 16 w2 gv (rs.map aU.cells))(kh:lf (aU.Reads (cZ base w2)) rs fs)(ik:Fr aW w2 w3)(rh:aU.Reads (cZ base w3) r3 m)(qw:∀u∈r3.cells,u.oneCell'=true)(kz:Fr (own gv) w3 w4)
  (eU:w4.ownsRow base 133 16 (.slice (some ⟨gg,0,none⟩) (fs.length+1) cap) (fs.length+1) ((rs.map aU.cells).flatten++r3.cells))(dL:gv.ownBlock=some gg\/w2.heap.size<=gg) :
  dB base (w4.setCell ⟨b,0,none⟩ (.slice (some ⟨gg,0,none⟩) (fs.length+1) cap)) b (.slice (some ⟨gg,0,none⟩) (fs.length+1) cap) wv (fs++[m]) ws /\
  Fr (dh b gv wv) w2 (w4.setCell ⟨b,0,none⟩ (.slice (some ⟨gg,0,none⟩) (fs.length+1) cap))/\∀k,dh b (.slice (some ⟨gg,0,none⟩) (fs.length+1) cap) wv k->dh b gv wv k\/w2.heap.size<=k:=by
 have kR:=h2.low;have uQ:=kh.len;have xG:=ho.fr ik (fun _ _ h=>h);have Df:rL base w3 (own gv):=xG.off (ay _) ag;have tC:lf (aU.Reads (cZ base w4)) (rs++[r3]) (fs++[m]) :=
  (kh.mono (fun _ _ h=>h.mono (fun _ _ h=>(h.dt ik).fr kz Df))).app (.cons (rh.mono (fun _ _ h=>h.fr kz Df)) .nil)
 have Bt:hD base w4 (.slice (some ⟨gg,0,none⟩) (fs.length+1) cap) (fs++[m]):=by
  refine⟨rs++[r3],⟨?_,?_⟩,tC⟩
  ·intro x hx;rw[bD]at hx;rcases bP.1 hx with hx|hx
   ·exact ho.1 x hx
   ·simp at hx;subst hx;exact⟨rfl,qw⟩
  ·rw[bD,ec,aM,aj,uQ];simpa using eU
 have h3:=h2.dt ik;have sG:=kz.keep h3.eG h3.gb;have qh:jS base w4 wv ws:=h3.waits.fr kz Df (fun k hk hg=>h3.gw hg hk);have SU:Fr (dh b gv wv) w2 w4:=fL (ik.mono (fun _ _ h=>absurd h id)) kz (fun _ _ hk=>Or.inr (Or.inl hk));refine⟨nC kR sG Bt qh,SU.setCell (p:=⟨b,0,none⟩) (fun _=>Or.inl rfl) _,?_⟩;rintro k(hk|hk|hk)
 ·exact Or.inl (Or.inl hk)
 ·have e:gg=k:=by simpa[own,Value.ownBlock]using hk
  subst e;rcases dL with dL|dL
  ·exact Or.inl (Or.inr (Or.inl dL))
  ·exact Or.inr dL
 ·exact Or.inl (Or.inr (Or.inr hk))
theorem JW{base:Nat}{w5 w6:World}{b gg cap n:Nat}{wv:Value}{ls:List (aU bE)}{ws:List (bJ bE)}{rs:List (aU Value)}(h5:dB base w5 b (.slice (some ⟨gg,0,none⟩) ls.length cap) wv ls ws)
  (hb:lf (aU.Reads (cZ base w5)) rs ls)(yN:OwnRows base 133 16 w6 (.slice (some ⟨gg,0,none⟩) (0+(ls.length-n)) cap) ((rs.map aU.cells).take 0++(rs.map aU.cells).drop n))(nw:Fr (one gg) w5 w6) :
  dB base (w6.setCell ⟨b,0,none⟩ (.slice (some ⟨gg,0,none⟩) (0+(ls.length-n)) cap)) b (.slice (some ⟨gg,0,none⟩) (0+(ls.length-n)) cap) wv (ls.drop n) ws /\
  Fr (dh b (.slice (some ⟨gg,0,none⟩) ls.length cap) wv) w5 (w6.setCell ⟨b,0,none⟩ (.slice (some ⟨gg,0,none⟩) (0+(ls.length-n)) cap))/\w6.cell? ⟨b,0,none⟩=some (.slice (some ⟨gg,0,none⟩) ls.length cap)/\w6.frozen? ⟨b,0,none⟩=false:=by
 have kR:=h5.low;have dX:∀k,one gg k->own (.slice (some ⟨gg,0,none⟩) ls.length cap) k:=fun k hk=>by have e:k=gg:=hk;rw[e];rfl
 have mK:rL base w5 (one gg):=fun k hk hl=>h5.off k (Or.inr (Or.inl (dX k hk))) hl;have sG:=nw.keep h5.eG (fun h=>h5.gb (dX _ h));have zd:jS base w6 wv ws:=h5.waits.fr nw mK (fun k hk hg=>h5.gw (dX _ hg) hk);have hg6:hD base w6 (.slice (some ⟨gg,0,none⟩) (0+(ls.length-n)) cap) (ls.drop n):=by
  refine⟨rs.drop n,?_,(hb.mono (fun _ _ h=>h.mono (fun _ _ h=>h.fr nw mK))).drop n⟩;rw[List.take_zero,List.nil_append]at yN;rw[List.map_drop];exact yN
 have SU:Fr (dh b (.slice (some ⟨gg,0,none⟩) ls.length cap) wv) w5 w6:=nw.mono (fun k _ hk=>Or.inr (Or.inl (dX k hk)));exact⟨nC kR sG hg6 zd,SU.setCell (p:=⟨b,0,none⟩) (fun _=>Or.inl rfl) _,by simp[World.cell?,sG],by simp[World.frozen?,sG]⟩
theorem OK(base:Nat)(w:World)(b:Nat)(gv wv:Value)(gs:List (aU bE))(ws:List (bJ bE))(g:aU Value)(m:aU bE)(h:dB base w b gv wv gs ws)(hg:g.Reads (cZ base w) m)(Mt:gs.length<34359738368) :
  aC 79 #[.pointer (some ⟨b,0,none⟩),.agg g.cells.toArray] w (GX base w b gv wv (uW gs m) ws):=by
 obtain⟨x,hx⟩:∃x,x=g.cells:=⟨_,rfl⟩;have lr:x.length=16:=by rw[hx];rfl
 have tL:=h.lt;have kR:=h.low;have oQ:Fr aW w (w.alloc (.cells x.toArray 133)):=(ae aW w).alloc _;have h1:=h.dt oQ;have IW:=hg.mono (fun _ _ h=>h.dt oQ);have rj:(w.alloc (.cells x.toArray 133)).heap[w.heap.size]?=some (.cells x.toArray 133 (0,0)):=aB _ _;have mW:∀i u,g.cells[i]?=some u->(w.alloc (.cells x.toArray 133)).cell? ⟨w.heap.size,i,none⟩=some u:=fun i u hu=>by
  rw[<-hx]at hu;simp only[World.cell?,rj];simpa using hu
 have c0:=mW 0 _ rfl;have c1:=mW 1 _ rfl;have c2:=mW 2 _ rfl;have c3:=mW 3 _ rfl;have c7:=mW 7 _ rfl;have sj:=O (zc base _ b gv wv gs ws g.o g.proxy g.a.aP h1);have tu:=O rj;have HG:=O IW;have HX:=O hx;rw[<-hx];clear hg IW rj mW hx;go_enter func79,ntmps79;go_wp2_with fail
 clear c0 c1 c2 c3 c7;have D8:w.heap.size<(w.alloc (.cells x.toArray 133)).heap.size:=aQ;generalize w.alloc (.cells x.toArray 133)=W at *
 refine sj.o.mono ?_;intro e w2 hpd;obtain⟨rfl,gv2,wv2,h2,dD,JX⟩:=hpd;have mK:=h1.off;have pN:¬dh b gv wv w.heap.size:=by
  rintro(e|hk|hk)
  ·omega
  ·obtain⟨c,e⟩:=h.tF hk;have:=bg e;omega
  ·obtain⟨c,e⟩:=h.vP hk;have:=bg e;omega
 have ze:=O (dD.keep tu.o pN);have yr:=O (HG.o.mono (fun _ _ h=>h.fr dD mK));have XW:(gs.filter (fun g_1=>!mP g.o g.proxy g.a.aP g_1)).length<=gs.length:=bR _ _;obtain⟨fs,kx⟩:∃fs,fs=gs.filter (fun g_1=>!mP g.o g.proxy g.a.aP g_1):=⟨_,rfl⟩;rw[<-kx]at h2 XW ⊢;have TM:=O kx;have ki:Fr (dh b gv wv) w w2:=fL (oQ.mono (fun _ _ h=>absurd h id)) dD (fun _ _ h=>h);clear sj oQ dD mK kx h1 h tu HG
 have C6:=O (show uW gs m=(fs++[m]).drop (fs.length+1-8)by
  have hr:=yr.o;unfold uW;rw[<-hr.1, <-hr.2.1, <-hr.2.2.2.2.1.2.1, <-TM.o];simp)
 obtain⟨av,cv,TI⟩:=h2.bW.form;subst TI;have d0:=h2.c0;have e0:=h2.free 0;obtain⟨rs,ho,kh⟩:=h2.bW;have cO:=ho.2;have ob:∀i u,g.cells[i]?=some u->w2.cell? ⟨w.heap.size,i,none⟩=some u:=fun i u hu=>by
  have e:=HX.o;rw[<-e]at hu;simp only[World.cell?,ze.o];simpa using hu
 have x0:=ob 0 _ rfl;have x1:=ob 1 _ rfl;have x2:=ob 2 _ rfl;have x3:=ob 3 _ rfl;have x4:=ob 4 _ rfl;have x5:=ob 5 _ rfl;have x6:=ob 6 _ rfl;have x7:=ob 7 _ rfl;have x8:=ob 8 _ rfl;have x9:=ob 9 _ rfl;have XX:=ob 10 _ rfl;have XY:=ob 11 _ rfl;have x12:=ob 12 _ rfl;have x13:=ob 13 _ rfl;have x14:=ob 14 _ rfl;have x15:=ob 15 _ rfl;have Qc:¬own (.slice av fs.length cv) w.heap.size:=fun hk=>by
  rcases JX _ (Or.inr (Or.inl hk))with h|h
  ·exact pN h
  ·omega
 have fy:=O (show∀U,Fr aW w2 U->aC 94 #[.agg #[.bool g.o.aG,.string g.o.host,.int .i64 g.o.port,.bool g.proxy,.string g.user,.string g.pass,.int .i64 g.a.scheme,.string g.a.aP,.string g.a.bz,.string g.a.cC,.bool g.a.cD,.string g.a.eY,.bool g.a.du,g.a.dom,.int .i64 g.count,g.paths]] U (TG base m U)from fun U hU=>by
  exact ug base g m U (by have:=h2.lt;have:=hU.size;omega) (yr.o.mono (fun _ _ h=>h.dt hU)))
 obtain⟨i0,ri,oZ,kI,kS⟩:=info_parts xS;have HO:=O ho;have qg:=O kh;have uQ:=kh.len;have ZM:=O (show(rs.map aU.cells).length=fs.length by rw[aj,uQ]);have ar3:base<=w2.heap.size:=by have:=h2.lt;omega
 have zO:¬own (.slice av fs.length cv) b:=h2.gb
 have Dg:=O (show∀U,Fr (own (.slice av fs.length cv)) w2 U->U.cell? ⟨b,0,none⟩=some (.slice av fs.length cv)/\U.cell? ⟨w.heap.size,0,none⟩=some (.bool g.o.aG)/\U.cell? ⟨w.heap.size,1,none⟩=some (.string g.o.host)/\U.cell? ⟨w.heap.size,2,none⟩=some (.int .i64 g.o.port)/\U.cell? ⟨w.heap.size,3,none⟩=some (.bool g.proxy)/\U.cell? ⟨w.heap.size,4,none⟩=some (.string g.user)/\U.cell? ⟨w.heap.size,5,none⟩=some (.string g.pass)/\U.cell? ⟨w.heap.size,6,none⟩=some (.int .i64 g.a.scheme)/\U.cell? ⟨w.heap.size,7,none⟩=some (.string g.a.aP)/\U.cell? ⟨w.heap.size,8,none⟩=some (.string g.a.bz)/\U.cell? ⟨w.heap.size,9,none⟩=some (.string g.a.cC)/\U.cell? ⟨w.heap.size,10,none⟩=some (.bool g.a.cD)/\U.cell? ⟨w.heap.size,11,none⟩=some (.string g.a.eY)/\U.cell? ⟨w.heap.size,12,none⟩=some (.bool g.a.du)/\U.cell? ⟨w.heap.size,13,none⟩=some (g.a.dom)/\U.cell? ⟨w.heap.size,14,none⟩=some (.int .i64 g.count)/\U.cell? ⟨w.heap.size,15,none⟩=some (g.paths)from fun U hU=>by
  have hc:∀i u,g.cells[i]?=some u->U.cell? ⟨w.heap.size,i,none⟩=some u:=fun i u hu=>(hU.cell (p:=⟨w.heap.size,i,none⟩) (bg ze.o) Qc).trans (ob i u hu);exact⟨(hU.cell (p:=⟨b,0,none⟩) h2.lt zO).trans d0,hc 0 _ rfl,hc 1 _ rfl,hc 2 _ rfl,hc 3 _ rfl,hc 4 _ rfl,hc 5 _ rfl,hc 6 _ rfl,hc 7 _ rfl,hc 8 _ rfl,hc 9 _ rfl,hc 10 _ rfl,hc 11 _ rfl,hc 12 _ rfl,hc 13 _ rfl,hc 14 _ rfl,hc 15 _ rfl⟩)
 clear ho kh uQ cO ob;go_wp2_with fail
 go_region_law (first
   |((with_reducible refine mG ⟨some 20,_,_,_,_,_⟩ ?_)
     refine wB rfl 94 _ (by go_simp) (fy.o _ (by repeat(first|exact ae _ _|apply az))) ?_
     intro e w3 Mu
     obtain⟨r3,rfl,rh,qw,ik⟩:=Mu
     refine⟨_,rfl,?_⟩
     have ij:Fr aW w2 w3:=bC (by repeat(first|exact ae _ _|apply az)) ik
     have hk:=Dg.o w3 (ij.mono (fun _ _ h=>absurd h id))
     have k3:=hk.1
     have ZN:b<w3.heap.size:=cK h2.lt ij.size
     obtain⟨y,hy⟩:∃y,y=r3.cells:=⟨_,rfl⟩
     have ET:y.length=16:=by rw[hy];rfl
     have HY:=O hy
     rw[<-hy]at qw ⊢
     have Fq:=vC y #[.bool false,.string ⟨#[]⟩,.int .i64 0,.bool false,.string ⟨#[]⟩,.string ⟨#[]⟩,.int .i64 0,.string ⟨#[]⟩,.string ⟨#[]⟩,.string ⟨#[]⟩,.bool false,.string ⟨#[]⟩,.bool false,.slice none 0 0,.int .i64 0,.slice none 0 0] (by rw[ET];rfl)
     have fk:w3.ownsRow base 133 16 (.slice av fs.length cv) fs.length (rs.map aU.cells).flatten:=by
       have h:=(HO.o.fr ij (fun _ _ h=>h)).2
       rw[ZM.o]at h
       exact h
     have sN:base<=w3.heap.size:=by have:=ij.size;omega
     clear hy ik)
   |((with_reducible refine mG ⟨some 22,_,_,_,_,_⟩ ?_)
     refine step_append_lies _ bw _ _ _ bw base 133 i0 _ 16 216 underlying85 ri oZ kI kS rfl ab (.slice av fs.length cv) fs.length _ bw (by repeat(first|exact fk|apply World.ownsRow.alloc|apply World.ownsRow.drew)) ⟨w3.heap.size,0,none⟩ 1 1 y bw (by rw[ET]) (kB w3 y _) qw ab fl ab bF (w3.heap.size+1) aQ ?_
     intro gg cap w4 eU jk dL JY
     have agd:Fr (own (.slice av fs.length cv)) w2 w3:=ij.mono (fun _ _ h=>absurd h id)
     have jH:Fr (own (.slice av fs.length cv)) w2 w4:=fg (by repeat(first|exact agd|apply az|apply bq)) jk (fun _ hk _=>hk)
     have GY:Fr (own (.slice av fs.length cv)) w3 w4:=fg (by repeat(first|exact ae _ _|apply az|apply bq)) jk (fun _ hk _=>hk)
     have hk:=Dg.o w4 jH
     have k4:=hk.1
     have e4:w4.frozen? ⟨b,0,none⟩=false:=(jH.frozen (p:=⟨b,0,none⟩) h2.lt zO).trans e0))
 all_goals
  rw[HY.o]at eU qw;obtain⟨h5,hF5,Qd⟩:=Fu h2 HO.o qg.o ij rh qw GY eU (dL.imp id (fun h=>by have:=ij.size;omega));have d5:=h5.c0;have e5:=h5.free 0;clear fy Dg eU jk jH GY fk agd k4 e4 hk k3 x0 x1 x2 x3 x4 x5 x6 x7 x8 x9 XX XY x12 x13 x14 x15 d0 e0 Fq rh qw;generalize w4.setCell ⟨b,0,none⟩ (.slice (some ⟨gg,0,none⟩) (fs.length+1) cap)=w5 at *
  have Aj:(fs++[m]).length=fs.length+1:=aQ;have RO:=O Aj;have xX:Fr (dh b gv wv) w w5:=ki.step hF5 (fun k hk hb=>by
   rcases JX k hb with h|h
   ·exact h
   ·omega)
  have Et:∀k,dh b (.slice (some ⟨gg,0,none⟩) (fs.length+1) cap) wv2 k->dh b gv wv k\/w.heap.size<=k:=fun k hk=>by
   rcases Qd k hk with h|h
   ·rcases JX k h with h|h
    ·exact Or.inl h
    ·exact Or.inr ab
   ·exact Or.inr (by have:=ki.size;omega)
  by_cases h8:8<=fs.length
  ·have Z':(8:Int)<(fs.length:Int)+1:=ab;obtain⟨n,hn⟩:∃n:Nat,fs.length+1=n+8:=⟨fs.length+1-8,ab⟩;rw[<-Aj]at h5;obtain⟨rs5,Lq,Eu⟩:=h5.bW;have Mx:=O (show(rs5.map aU.cells).length=fs.length+1 by rw[aj,Eu.len,Aj]);have ql:=O (Fs base gg cap 0 n (rs5.map aU.cells) w5 (by rw[Mx.o, <-Aj];exact Lq) ab (by rw[Mx.o];omega));have hn':=O hn;rw[Mx.o]at ql;clear hn Aj;go_wp2_with fail
   rw[show((fs.length:Int)+1-8)=(n:Int)from by have:=hn'.o;omega];refine ql.o.mono ?_;rintro e w6⟨rfl,yN,nw⟩;obtain⟨h7,RP,d7,e7⟩:=JW (n:=n) h5 Eu (by rw[RO.o];exact yN) nw;rw[RO.o,bj]at h7 RP;rw[RO.o]at d7;have H7:=O h7;have Ih:=O RP;clear h7 RP ql yN Eu Lq;go_wp2_with fail
   go_end0;refine⟨rfl,_,_,by rw[C6.o,show fs.length+1-8=n from by have:=hn'.o;omega];exact H7.o,xX.step Ih.o (fun k hk hb=>by
    rcases Et k hb with h|h
    ·exact h
    ·omega),fun k hk=>Et k ?_⟩
   rcases hk with h|h|h
   ·exact Or.inl h
   ·exact Or.inr (Or.inl h)
   ·exact Or.inr (Or.inr h)
  ·have Z':¬(8:Int)<(fs.length:Int)+1:=ab;go_wp2_with fail
   go_end0;exact⟨rfl,_,_,by rw[C6.o,show fs.length+1-8=0 from ab,eC];exact h5,xX,Et⟩
structure fX (D:Type) where
 part:Int
 cQ:gy
 o:gy
 path:ai
 query:ai
 method:ai
 ef:D
 fF:Bool
 body:ai
def fX.cells(r:fX Value):aX:=[.int .i64 r.part,.bool r.cQ.aG,.string r.cQ.host,.int .i64 r.cQ.port,.bool r.o.aG,.string r.o.host,.int .i64 r.o.port,.string r.path,.string r.query,.string r.method,r.ef,.bool r.fF,.string r.body]
def fX.dP(r:fX D)(hs:List gU):qF:=⟨r.cQ,r.o,r.path,r.query,r.method,hs,r.fF⟩
def uG(w:World)(v:Value)(ps:List en):Prop:=eb 12 w v (ps.map en.cells)
def G0(x:aX):en:=⟨⟨cB x 0,cS x 1,cI x 2⟩,⟨cB x 3,cS x 4,cI x 5⟩,cS x 6,cS x 7,cB x 8,cS x 9,cS x 10,cI x 11⟩
theorem Dm(ps:List en)(f:en->Bool):(ps.map en.cells).any (fun x=>f (G0 x))=ps.any f:=by
 rw[List.any_map];rfl
theorem T8(p:en)(m:ai)(r:fX Value)(bm br:Nat)(w:World)(hm:w.heap[bm]?=some (.cells #[.string m] 9 (0,0)))(hr:w.heap[br]?=some (.cells r.cells.toArray 29 (0,0))) :
  aC 127 #[.agg p.cells.toArray,.pointer (some ⟨bm,0,none⟩),.pointer (some ⟨br,0,none⟩)] w fun e w'=>e=.returned (.bool (p.lets m r.fF))/\Fr aW w w':=by
 unfold en.cells;unfold fX.cells at hr;have iv:Fr aW w _:=(ae aW w).alloc (.cells #[.bool p.cQ.aG,.string p.cQ.host,.int .i64 p.cQ.port,.bool p.o.aG,.string p.o.host,.int .i64 p.o.port,.string p.path,.string p.query,.bool p.fF,.string p.method,.string p.head,.int .i64 p.pE] 137);have Ea:=iv.keep hm id;have oP:=iv.keep hr id
 have cm:(w.alloc (.cells #[.bool p.cQ.aG,.string p.cQ.host,.int .i64 p.cQ.port,.bool p.o.aG,.string p.o.host,.int .i64 p.o.port,.string p.path,.string p.query,.bool p.fF,.string p.method,.string p.head,.int .i64 p.pE] 137)).cell? ⟨bm,0,none⟩=some (.string m):=by simp[World.cell?,Ea]
 clear Ea;have sk:=O iv;cases e1:(p.method.toList==m.toList)
 ·cases e2:(p.method.toList==star)
  ·have HR:=O (show p.lets m r.fF=false by unfold en.lets;rw[e1,e2];rfl);have Z7:(p.method.toList== [42])=false:=e2;clear iv hm hr e2;go_enter func127,ntmps127;go_wp2;go_ret;exact⟨by rw[HR.o];rfl,sk.o⟩
  ·have Z7:(p.method.toList== [42])=true:=e2;have cw:(w.alloc (.cells #[.bool p.cQ.aG,.string p.cQ.host,.int .i64 p.cQ.port,.bool p.o.aG,.string p.o.host,.int .i64 p.o.port,.string p.path,.string p.query,.bool p.fF,.string p.method,.string p.head,.int .i64 p.pE] 137)).cell? ⟨br,11,none⟩=some (.bool r.fF):=by simp[World.cell?,oP]
   cases e3:r.fF
   ·have HR:=O (show p.lets m false=true by unfold en.lets;rw[e1,e2];rfl);rw[e3]at cw;clear iv hm hr e2 oP e3;go_enter func127,ntmps127;go_wp2;go_ret;exact⟨by rw[HR.o];rfl,sk.o⟩
   ·have HR:=O (show p.lets m true=false by unfold en.lets;rw[e1,e2];rfl);rw[e3]at cw;clear iv hm hr e2 oP e3;go_enter func127,ntmps127;go_wp2;go_ret;exact⟨by rw[HR.o];rfl,sk.o⟩
 ·have HR:=O (show p.lets m r.fF=true by unfold en.lets;rw[e1];rfl);clear iv hm hr;go_enter func127,ntmps127;go_wp2;go_ret;exact⟨by rw[HR.o];rfl,sk.o⟩
theorem J5(p:en)(m:ai)(r:fX Value)(bm br:Nat)(w:World)(hm:w.heap[bm]?=some (.cells #[.string m] 9 (0,0)))(hr:w.heap[br]?=some (.cells r.cells.toArray 29 (0,0))) :
  aC 129 #[.agg p.cells.toArray,.pointer (some ⟨bm,0,none⟩),.pointer (some ⟨br,0,none⟩)] w fun e w'=>e=.returned (.bool (p.mO m r.fF))/\Fr aW w w':=by
 unfold en.cells;unfold fX.cells at hr;have iv:Fr aW w _:=(ae aW w).alloc (.cells #[.bool p.cQ.aG,.string p.cQ.host,.int .i64 p.cQ.port,.bool p.o.aG,.string p.o.host,.int .i64 p.o.port,.string p.path,.string p.query,.bool p.fF,.string p.method,.string p.head,.int .i64 p.pE] 137);have Ea:=iv.keep hm id;have oP:=iv.keep hr id
 have cm:(w.alloc (.cells #[.bool p.cQ.aG,.string p.cQ.host,.int .i64 p.cQ.port,.bool p.o.aG,.string p.o.host,.int .i64 p.o.port,.string p.path,.string p.query,.bool p.fF,.string p.method,.string p.head,.int .i64 p.pE] 137)).cell? ⟨bm,0,none⟩=some (.string m):=by simp[World.cell?,Ea]
 clear Ea;have sk:=O iv;cases e1:(p.head.toList==m.toList)
 ·cases e2:(p.head.toList==star)
  ·have HR:=O (show p.mO m r.fF=false by unfold en.mO;rw[e1,e2];rfl);have Z7:(p.head.toList== [42])=false:=e2;clear iv hm hr e2;go_enter func129,ntmps129;go_wp2;go_ret;exact⟨by rw[HR.o];rfl,sk.o⟩
  ·have Z7:(p.head.toList== [42])=true:=e2;have cw:(w.alloc (.cells #[.bool p.cQ.aG,.string p.cQ.host,.int .i64 p.cQ.port,.bool p.o.aG,.string p.o.host,.int .i64 p.o.port,.string p.path,.string p.query,.bool p.fF,.string p.method,.string p.head,.int .i64 p.pE] 137)).cell? ⟨br,11,none⟩=some (.bool r.fF):=by simp[World.cell?,oP]
   cases e3:r.fF
   ·rw[e3]at cw;cases e4:(m.toList==ZH)
    ·have HR:=O (show p.mO m false=true by unfold en.mO;rw[e1,e2];unfold bne;rw[e4];rfl);have e4':(m.toList== [97,117,116,104,111,114,105,122,97,116,105,111,110])=false:=e4;clear iv hm hr e2 oP e3 e4;go_enter func129,ntmps129;go_wp2;go_ret;exact⟨by rw[HR.o];rfl,sk.o⟩
    ·have HR:=O (show p.mO m false=false by unfold en.mO;rw[e1,e2];unfold bne;rw[e4];rfl);have e4':(m.toList== [97,117,116,104,111,114,105,122,97,116,105,111,110])=true:=e4;clear iv hm hr e2 oP e3 e4;go_enter func129,ntmps129;go_wp2;go_ret;exact⟨by rw[HR.o];rfl,sk.o⟩
   ·have HR:=O (show p.mO m true=false by unfold en.mO;rw[e1,e2];rfl);rw[e3]at cw;clear iv hm hr e2 oP e3;go_enter func129,ntmps129;go_wp2;go_ret;exact⟨by rw[HR.o];rfl,sk.o⟩
 ·have HR:=O (show p.mO m r.fF=true by unfold en.mO;rw[e1];rfl);clear iv hm hr;go_enter func129,ntmps129;go_wp2;go_ret;exact⟨by rw[HR.o];rfl,sk.o⟩
theorem Dn(g:Nat)(cap:bS)(p:aX->Bool)(v:Value)(xs:cU)(bl:Nat)(w:World)(eg:∀args w,(callFunc g args).run prog w=.ok (.enter g args) w)(hp:gF aW w g cap p xs)(hv:eb 12 w v xs)(hl:w.heap[bl]?=some (.cells #[v] 119 (0,0))) :
  aC 124 #[.func (.func g) #[] cap,.pointer (some ⟨bl,0,none⟩)] w fun e w'=>e=.returned (.bool (xs.any p))/\Fr aW w w':=by
 have hc:=O (BF g cap p v xs w eg hp hv);obtain⟨av,cv,rfl⟩:=hv.form;have c0:w.cell? ⟨bl,0,none⟩=some (.slice av xs.length cv):=by simp[World.cell?,hl]
 clear hv hl hp;go_enter func124,ntmps124;go_wp2_with fail
 refine hc.o.mono ?_;rintro e u⟨rfl,hf⟩;go_wp2;go_ret;exact⟨rfl,hf⟩
def FC(r:fX Value)(hs:List gU):Prop:=r.method.size<100000/\hs.length<100000/\∀p∈hs,p.1.size<100000/\p.2.size<100000
def aag(hs:List ai)(fF:Bool)(ps:List en)(w:World)(t:Value)(wr:World):Prop :=
 ∃k:Nat,k<=hs.length/\t=.int .i64 k/\(hs.take k).all (fun h=>ps.any (en.mO h fF))=true/\Fr aW w wr
theorem ui{α:Type}{p:α->Bool}{l:List α}{x:α}(h:l[k]?=some x)(hn:(l.take k).all p=true)(hp:p x=true):(l.take (k+1)).all p=true:=by
 rw[dT h,jI,hn];simp[hp]
theorem xY{α:Type}{p:α->Bool}{l:List α}{x:α}(h:l[k]?=some x)(hp:p x=false):l.all p=false:=by
 rw[iU];exact⟨x,cA h,by simp[hp]⟩
theorem xZ(r:fX Value)(hs:List gU)(v:Value)(ps:List en)(w:World)(hr:ox w r.ef hs)(hv:uG w v ps)(hz:FC r hs) :
  aC 84 #[.agg r.cells.toArray,v] w fun e w'=>e=.returned (.bool ((r.dP hs).mS ps))/\Fr aW w w':=by
 have gu:=O (show(r.dP hs).mS ps=((qB (ju r.method)||ps.any (en.lets (ju r.method) r.fF))&&(xF hs).all fun h=>ps.any (en.mO h r.fF))from rfl);generalize (r.dP hs).mS ps=res at gu ⊢;obtain⟨av,cv,JN⟩:=dN hv;rw[aj]at JN;subst JN;obtain⟨ah,ch,gq⟩:=dN hr;rw[aj]at gq;obtain⟨rc,uj⟩:∃rc,rc=r.cells.toArray:=⟨_,rfl⟩
 obtain⟨wb,jJ⟩:∃wb,wb=(w.alloc (.cells rc 29)).alloc (.cells #[.slice av ps.length cv] 119):=⟨_,rfl⟩;have j6:Fr aW w wb:=by rw[jJ];exact((ae aW w).alloc _).alloc _
 have hsb:wb.heap.size=w.heap.size+2:=by rw[jJ];simp
 have lI:wb.heap[w.heap.size]?=some (.cells rc 29 (0,0)):=by rw[jJ];exact((ae aW _).alloc _).keep (aB _ _) id
 have rM:wb.heap[w.heap.size+1]?=some (.cells #[.slice av ps.length cv] 119 (0,0)):=by
  have h:=aB (w.alloc (.cells rc 29)) (.cells #[.slice av ps.length cv] 119);rw[bM]at h;rw[jJ];exact h
 have HC:=O (show∀U,Fr aW wb U->U.heap[w.heap.size]?=some (.cells r.cells.toArray 29 (0,0))/\U.heap[w.heap.size+1]?=some (.cells #[.slice av ps.length cv] 119 (0,0))from fun U hU=>⟨by rw[<-uj];exact hU.keep lI id,hU.keep rM id⟩);have HX:=O (show∀U,Fr aW wb U->U.cell? ⟨w.heap.size,9,none⟩=some (.string r.method)/\U.cell? ⟨w.heap.size,10,none⟩=some (.slice ah hs.length ch)from fun U hU=>by
  have j:=(HC.o U hU).1;unfold fX.cells at j;rw[gq]at j;simp[World.cell?,j])
 have HV:=O (show∀U,Fr aW w U->uG U (.slice av ps.length cv) ps from fun U hU=>bG hv hU);have HH:=O (show∀U,Fr aW w U->ox U (.slice ah hs.length ch) hs from fun U hU=>by rw[<-gq];exact bG hr hU);have HZ:=O hz;have lZ:=O j6;have qC:=O jJ;have Of:=O uj;clear hv hr hz j6 jJ lI rM;rw[<-uj];clear uj;obtain⟨c9,G1⟩:=HX.o wb (ae _ _);rw[qC.o]at c9 G1;go_enter func84,ntmps84;go_wp2_with fail
 rw[<-qC.o];refine(xE r.method wb HZ.o.1).mono ?_;rintro e u1⟨rfl,dn⟩;obtain⟨m,hm⟩:∃m,m=ju r.method:=⟨_,rfl⟩;rw[<-hm]at gu ⊢;clear hm;obtain⟨w1,oT⟩:∃w1,w1=u1.alloc (.cells #[.string m] 9):=⟨_,rfl⟩;have hmb:w1.heap[u1.heap.size]?=some (.cells #[.string m] 9 (0,0)):=by rw[oT];exact aB _ _
 have dD:Fr aW wb w1:=by rw[oT];exact dn.alloc _
 have PQ:=O oT;have lB:=O dD;have k0:w1.cell? ⟨u1.heap.size,0,none⟩=some (.string m):=by simp[World.cell?,hmb]
 have HMB:=O hmb;clear dn dD c9 G1 oT hmb;go_wp2_with fail
 rw[<-PQ.o];refine(LO m w1).mono ?_;rintro e u2⟨rfl,rfl⟩
 -- the method is allowed
 have zk:=O (show aC 124 #[.func (.func 127) #[] #[.pointer (some ⟨u1.heap.size,0,none⟩),.pointer (some ⟨w.heap.size,0,none⟩)],.pointer (some ⟨w.heap.size+1,0,none⟩)] w1 fun e w'=>e=.returned (.bool (ps.any (en.lets m r.fF)))/\Fr aW w1 w' from by
  rw[<-Dm];refine Dn _ _ (fun x=>en.lets m r.fF (G0 x)) _ _ _ w1 call127 ?_ (HV.o w1 (lZ.o.trans lB.o)) (HC.o w1 lB.o).2;intro x hx u hu;obtain⟨p,hp,rfl⟩:=cj.1 hx;exact T8 p m r _ _ u (hu.keep HMB.o id) ((HC.o u (lB.o.trans hu)).1))
 cases nv:qB m
 ·cases si:ps.any (en.lets m r.fF)
  ·have HR:=O (show res=false by rw[gu.o,nv,si];rfl);rw[si]at zk;clear nv si gu;go_wp2_with fail
   refine zk.o.mono ?_;rintro e u3⟨rfl,ik⟩;go_wp2;go_ret;exact⟨by rw[HR.o];rfl,(lZ.o.trans lB.o).trans ik⟩
  ·have MJ:=O (show res=(xF hs).all (fun h=>ps.any (en.mO h r.fF))by rw[gu.o,nv,si];rfl);rw[si]at zk;clear nv si gu;go_wp2_with fail
   refine zk.o.mono ?_;rintro e u3⟨rfl,ik⟩;have ij:=O (lB.o.trans ik);obtain⟨c9,G1⟩:=HX.o _ ij.o;clear ik zk;go_wp2_with fail
   refine(EX hs _ u3 (HH.o u3 (lZ.o.trans ij.o)) HZ.o.2.1 HZ.o.2.2).mono ?_;rintro e u4⟨uv,rfl,iM,kz⟩;obtain⟨au,cu,huf⟩:=iM.form;obtain⟨nl,rD⟩:∃nl,nl=xF hs:=⟨_,rfl⟩;rw[<-rD]at iM huf MJ;subst huf;have jH:=O (ij.o.trans kz);have lT:=O iM.at;clear kz iM rD c9 G1;go_wp2;go_loopw[26] (aag nl r.fF ps u4) (fun i _=>nl.length-(intOf i).toNat)
   case atStart=>exact⟨0,aS _,rfl,rfl,ae _ _⟩
   case round =>
    obtain⟨k,hk,rfl,iE,cN⟩:=hrel;have Ab:=O iE;clear iE;by_cases fx:k<nl.length
    ·have qp:(k:Int)<(nl.length:Int):=ab;rcases lT.o.iY cN with ⟨_,_,_,e,_⟩|⟨bk,o,c,hf,h1,h2,h3,h4⟩
     ·rw[e]at fx;exact absurd fx (cq _)
     ·cases hf;unfold maxLen at h2;have dL:=O (List.getElem?_eq_getElem fx);have hc:=h4 k _ dL.o;generalize nl[k]=x at dL hc;clear h4;obtain⟨wx,MK⟩:∃wx,wx=wr.alloc (.cells #[.string x] 9):=⟨_,rfl⟩;have Xl:wx.heap[wr.heap.size]?=some (.cells #[.string x] 9 (0,0)):=by rw[MK];exact aB _ _
      have IU:Fr aW wr wx:=by rw[MK];exact(ae _ _).alloc _
      have BG:=O ((jH.o.trans cN).trans IU);have X6:=O (show aC 124 #[.func (.func 129) #[] #[.pointer (some ⟨wr.heap.size,0,none⟩),.pointer (some ⟨w.heap.size,0,none⟩)],.pointer (some ⟨w.heap.size+1,0,none⟩)] wx fun e w'=>e=.returned (.bool (ps.any (en.mO x r.fF)))/\Fr aW wx w' from by
       rw[<-Dm];refine Dn _ _ (fun y=>en.mO x r.fF (G0 y)) _ _ _ wx call129 ?_ (HV.o wx (lZ.o.trans BG.o)) (HC.o wx BG.o).2;intro y hy u hu;obtain⟨p,hp,rfl⟩:=cj.1 hy;exact J5 p x r _ _ u (hu.keep Xl id) ((HC.o u (BG.o.trans hu)).1))
      have RR:=O MK;have uf:=O (cN.trans IU);clear MK;cases iX:ps.any (en.mO x r.fF)
      ·have HR:=O (show res=false by rw[MJ.o];exact xY dL.o iX);rw[iX]at X6;clear iX;go_wp2_with fail
       rw[<-RR.o];refine X6.o.mono ?_;rintro e u6⟨rfl,nw⟩;go_wp2;go_ret;exact⟨by rw[HR.o];rfl,(lZ.o.trans BG.o).trans nw⟩
      ·have pN:=O (ui dL.o Ab.o iX);rw[iX]at X6;clear iX;go_wp2_with fail
       rw[<-RR.o];refine X6.o.mono ?_;rintro e u6⟨rfl,nw⟩;go_wp2;go_roundw
       case rel=>exact⟨k+1,ab,bf,pN.o,uf.o.trans nw⟩
       case measure=>simp[intOf];omega
    ·have qp:¬(k:Int)<(nl.length:Int):=ab;have HR:=O (show res=true by rw[MJ.o];have h:=Ab.o;rwa [aD ab]at h);go_wp2;go_ret;exact⟨by rw[HR.o];rfl,lZ.o.trans (jH.o.trans cN)⟩
 ·have MJ:=O (show res=(xF hs).all (fun h=>ps.any (en.mO h r.fF))by rw[gu.o,nv];simp);clear nv gu zk;obtain⟨c9,G1⟩:=HX.o _ lB.o;go_wp2_with fail
  refine(EX hs _ w1 (HH.o w1 (lZ.o.trans lB.o)) HZ.o.2.1 HZ.o.2.2).mono ?_;rintro e u4⟨uv,rfl,iM,kz⟩;obtain⟨au,cu,huf⟩:=iM.form;obtain⟨nl,rD⟩:∃nl,nl=xF hs:=⟨_,rfl⟩;rw[<-rD]at iM huf MJ;subst huf;have jH:=O (lB.o.trans kz);have lT:=O iM.at;clear kz iM rD c9 G1;go_wp2;go_loopw[26] (aag nl r.fF ps u4) (fun i _=>nl.length-(intOf i).toNat)
  case atStart=>exact⟨0,aS _,rfl,rfl,ae _ _⟩
  case round =>
   obtain⟨k,hk,rfl,iE,cN⟩:=hrel;have Ab:=O iE;clear iE;by_cases fx:k<nl.length
   ·have qp:(k:Int)<(nl.length:Int):=ab;rcases lT.o.iY cN with ⟨_,_,_,e,_⟩|⟨bk,o,c,hf,h1,h2,h3,h4⟩
    ·rw[e]at fx;exact absurd fx (cq _)
    ·cases hf;unfold maxLen at h2;have dL:=O (List.getElem?_eq_getElem fx);have hc:=h4 k _ dL.o;generalize nl[k]=x at dL hc;clear h4;obtain⟨wx,MK⟩:∃wx,wx=wr.alloc (.cells #[.string x] 9):=⟨_,rfl⟩;have Xl:wx.heap[wr.heap.size]?=some (.cells #[.string x] 9 (0,0)):=by rw[MK];exact aB _ _
     have IU:Fr aW wr wx:=by rw[MK];exact(ae _ _).alloc _
     have BG:=O ((jH.o.trans cN).trans IU);have X6:=O (show aC 124 #[.func (.func 129) #[] #[.pointer (some ⟨wr.heap.size,0,none⟩),.pointer (some ⟨w.heap.size,0,none⟩)],.pointer (some ⟨w.heap.size+1,0,none⟩)] wx fun e w'=>e=.returned (.bool (ps.any (en.mO x r.fF)))/\Fr aW wx w' from by
      rw[<-Dm];refine Dn _ _ (fun y=>en.mO x r.fF (G0 y)) _ _ _ wx call129 ?_ (HV.o wx (lZ.o.trans BG.o)) (HC.o wx BG.o).2;intro y hy u hu;obtain⟨p,hp,rfl⟩:=cj.1 hy;exact J5 p x r _ _ u (hu.keep Xl id) ((HC.o u (BG.o.trans hu)).1))
     have RR:=O MK;have uf:=O (cN.trans IU);clear MK;cases iX:ps.any (en.mO x r.fF)
     ·have HR:=O (show res=false by rw[MJ.o];exact xY dL.o iX);rw[iX]at X6;clear iX;go_wp2_with fail
      rw[<-RR.o];refine X6.o.mono ?_;rintro e u6⟨rfl,nw⟩;go_wp2;go_ret;exact⟨by rw[HR.o];rfl,(lZ.o.trans BG.o).trans nw⟩
     ·have pN:=O (ui dL.o Ab.o iX);rw[iX]at X6;clear iX;go_wp2_with fail
      rw[<-RR.o];refine X6.o.mono ?_;rintro e u6⟨rfl,nw⟩;go_wp2;go_roundw
      case rel=>exact⟨k+1,ab,bf,pN.o,uf.o.trans nw⟩
      case measure=>simp[intOf];omega
   ·have qp:¬(k:Int)<(nl.length:Int):=ab;have HR:=O (show res=true by rw[MJ.o];have h:=Ab.o;rwa [aD ab]at h);go_wp2;go_ret;exact⟨by rw[HR.o];rfl,lZ.o.trans (jH.o.trans cN)⟩
theorem Qk(r:fX Value)(hs:List gU)(w:World)(hr:ox w r.ef hs)(hz:FC r hs) :
  aC 83 #[.agg r.cells.toArray] w fun e w'=>e=.returned (.bool (r.dP hs).needs)/\Fr aW w w':=by
 have gu:=O (show(r.dP hs).needs=(!r.cQ.kQ r.o&&!(r.dP hs).mS [])from rfl);generalize (r.dP hs).needs=res at gu ⊢;have hne:=AR r.cQ r.o;obtain⟨wb,jJ⟩:∃wb,wb=w.alloc (.cells r.cells.toArray 29):=⟨_,rfl⟩;have j6:Fr aW w wb:=by rw[jJ];exact(ae aW w).alloc _
 have lI:wb.heap[w.heap.size]?=some (.cells r.cells.toArray 29 (0,0)):=by rw[jJ];exact aB _ _
 have mW:∀i u,r.cells[i]?=some u->wb.cell? ⟨w.heap.size,i,none⟩=some u:=fun i u hu=>by
  simp only[World.cell?,lI];simpa using hu
 have c1:=mW 1 _ rfl;have c2:=mW 2 _ rfl;have c3:=mW 3 _ rfl;have c4:=mW 4 _ rfl;have c5:=mW 5 _ rfl;have c6:=mW 6 _ rfl;have wT:=O (xZ r hs (.slice none 0 0) [] wb (bG hr j6) (show eb 12 wb _ []from⟨aQ,Or.inl ⟨_,_,rfl,rfl,fun _=>rfl⟩⟩) hz);have lZ:=O j6;have c7:=mW 7 _ rfl;have c8:=mW 8 _ rfl;have c9:=mW 9 _ rfl;have G1:=mW 10 _ rfl;have T9:=mW 11 _ rfl;have c12:=mW 12 _ rfl;have c0:=mW 0 _ rfl
 obtain⟨ah,ch,gq⟩:=dN hr;rw[aj]at gq;have uj:r.cells=[.int .i64 r.part,.bool r.cQ.aG,.string r.cQ.host,.int .i64 r.cQ.port,.bool r.o.aG,.string r.o.host,.int .i64 r.o.port,.string r.path,.string r.query,.string r.method,.slice ah hs.length ch,.bool r.fF,.string r.body]:=by unfold fX.cells;rw[gq]
 rw[gq]at G1;rw[uj]at wT jJ ⊢;have qC:=O jJ;clear gq uj mW lI j6 jJ hr hz;cases e1:r.cQ.kQ r.o
 ·have HR:=O (show res=!(r.dP hs).mS []by rw[gu.o,e1];rfl);rw[e1]at hne;clear gu e1;rw[qC.o]at c0 c1 c2 c3 c4 c5 c6 c7 c8 c9 G1 T9 c12;go_enter func83,ntmps83;go_wp2_with fail
  rw[<-qC.o];refine wT.o.mono ?_;rintro e u⟨rfl,hf⟩;go_wp2;go_ret;exact⟨by rw[HR.o];rfl,lZ.o.trans hf⟩
 ·have HR:=O (show res=false by rw[gu.o,e1];rfl);rw[e1]at hne;clear gu e1;rw[qC.o]at c0 c1 c2 c3 c4 c5 c6 c7 c8 c9 G1 T9 c12;have HF:=O (qC.o▸lZ.o);go_enter func83,ntmps83;go_wp2;go_ret;exact⟨by rw[HR.o];rfl,HF.o⟩
theorem vz.off{S:dz}(h:vz B b l w)(hf:Fr S w w')(hb:¬S b)(hS:∀g cur fz,w.heap[g]?=some (.cells cur 5 fz)->¬S g):vz B b l w':=by
 have key:∀p,Lib.BuilderAtF 189 5 B b p (tK l) w->Lib.BuilderAtF 189 5 B b p (tK l) w':=by
  rintro p⟨hB,v,hv,⟨hx,hr⟩,hne⟩;refine⟨hB,v,hf.keep hv hb,⟨hx,?_⟩,hne⟩;rcases hr with hr|⟨g,cap,cur,fz,rfl,h1,hg,h2⟩
  ·exact Or.inl hr
  ·exact Or.inr ⟨g,cap,cur,fz,rfl,h1,hf.keep hg (hS g cur fz hg),h2⟩
 exact h.elim (fun x=>Or.inl (key _ x)) (fun x=>Or.inr (key _ x))
theorem vz.iY(h:vz B b l w)(hf:Fr aW w w'):vz B b l w':=h.off hf id (fun _ _ _ _ h=>h)
def yO(w:World)(d:Nat)(x:Bool):Prop:=w.heap[d]?=some (.cells #[.bool x] 4 (0,0))
theorem yO.L_{d:Nat}{x:Bool}(h:yO w d x)(ho:afe b w w')(hd:d≠b):yO w' d x :=
 ho d _ h (by simpa using hd) (fun c fz e=>by injection e with _ e2;exact absurd e2 ag)
def Ad(q:Bool)(v:Bs):Bs:=if q then(if nQ v then fI v else [])else v
def Ae(q:Bool)(v:Bs):Bool:=q&&!nQ v
def qf(l nm x:Bs):Bs:=l++((if 7<l.length then [44,32]else [])++(nm++61 :: x))
def Xu(B b d:Nat)(l:Bs)(bad:Bool)(nm v:Bs)(q:Bool)(w:World)(e:Ending)(w':World):Prop :=
 e=.returned (.tuple #[])/\vz B b (qf l nm (Ad q v)) w'/\yO w' d (bad||Ae q v)/\Below B w w'
theorem V_(a b:Bs):bA a++⟨#[61]⟩++bA b=bA (a++61 :: b):=by
 apply Go.WideShapes.bytes_inj;simp[bA]
theorem Jw(v:Bs):(fI v).length<=2*v.length+2:=by
 have:=N2 v;unfold fI;simp;omega
theorem Xv(B b d:Nat)(l nm v:Bs)(bad q:Bool)(w:World)(h:vz B b l w)(hd:yO w d bad)(hne:d≠b)(LH:B<=d)(hn:nm.length<=1000)(hv:v.length<=100000)(hl:l.length<=100000000)(hB:B<=w.heap.size) :
  aC 106 #[.string (bA nm),.string (bA v),.bool q,.pointer (some ⟨d,0,none⟩),.pointer (some ⟨b,0,none⟩)] w (Xu B b d l bad nm v q w):=by
 have z1:(bA nm).size=nm.length:=rfl;have z2:(bA v).size=v.length:=rfl;have z3:(⟨#[61]⟩:ai).size=1:=rfl;cases q with
 |false =>
  have RF:Ad false v=v:=rfl;go_enter func106,ntmps106;go_wp2_with fail
  refine(vA B b l w h).mono ?_;rintro e wl⟨rfl,rfl⟩;by_cases h7:7<l.length
  ·have Xw:(7:Int)<(l.length:Int):=ab;go_wp2_with fail
   refine(dZ B b l ⟨#[44,32]⟩ w h (by show l.length+2<=_;omega) (aE hB (Below.refl B w).size)).mono ?_;rintro e wx⟨rfl,rj,ES,CE⟩;have PI:=(hd).L_ CE hne;have tu:=O ((Below.refl B w).trans ES);clear CE ES;go_wp2_with fail
   rw[show bA nm++⟨#[61]⟩++bA v=bA (nm++61 :: v)from V_ nm v];refine(dZ B b _ (bA (nm++61 :: v)) wx rj (by show(l++[44,32]).length+(nm++61 :: v).length<=_;simp;omega) (aE hB tu.o.size)).mono ?_;rintro e wy⟨rfl,qD,E_,GH⟩;have GI:=PI.L_ GH hne;go_wp2;go_end0;refine⟨rfl,?_,(by rw[show Ae false v=false from rfl,Bool.or_false];exact GI),tu.o.trans E_⟩
   have e:qf l nm v=l++(⟨#[44,32]⟩:ai).data.toList++(bA (nm++61 :: v)).data.toList:=by unfold qf;rw[aA h7,fK];simp
   rw[RF,e];exact qD
  ·have Xw:¬(7:Int)<(l.length:Int):=ab;go_wp2_with fail
   rw[show bA nm++⟨#[61]⟩++bA v=bA (nm++61 :: v)from V_ nm v];refine(dZ B b l (bA (nm++61 :: v)) w h (by show l.length+(nm++61 :: v).length<=_;simp;omega) (aE hB (Below.refl B w).size)).mono ?_;rintro e wy⟨rfl,qD,E_,GH⟩;have GI:=(hd).L_ GH hne;go_wp2;go_end0;refine⟨rfl,?_,(by rw[show Ae false v=false from rfl,Bool.or_false];exact GI),(Below.refl B w).trans E_⟩
   have e:qf l nm v=l++(bA (nm++61 :: v)).data.toList:=by unfold qf;rw[ar h7,fK];simp
   rw[RF,e];exact qD
 |true =>
  have c0:∀U,Fr aW w U->U.cell? ⟨d,0,none⟩=some (.bool bad)/\U.frozen? ⟨d,0,none⟩=false:=fun U hU=>by
   have h1:=hU.keep hd id;exact⟨by simp[World.cell?,h1],by simp[World.frozen?,h1]⟩
  have SW:=O c0;clear c0;cases ht:nQ v with
  |true =>
   have RF:Ad true v=fI v:=by unfold Ad;rw[ht];rfl
   have Xx:Ae true v=false:=by unfold Ae;rw[ht];rfl
   have hql:=Jw v;have z4:(bA (fI v)).size=(fI v).length:=rfl;go_enter func106,ntmps106;go_wp2_with fail
   refine(EF (bA v) w ab).mono ?_;rintro e w1⟨rfl,dn⟩;rw[fK,aA ht];obtain⟨k0,k1⟩:=SW.o w1 dn;obtain⟨w2,ez⟩:∃w2,w2=w1.setCell ⟨d,0,none⟩ (.bool bad):=⟨_,rfl⟩;have Bo:=dn.keep hd id;have tO:yO w2 d bad:=by rw[ez];exact b_ Bo 0 (.bool bad)
   have dD:Fr (one d) w1 w2:=by rw[ez];exact(ae (one d) w1).setCell (p:=⟨d,0,none⟩) (fun _=>rfl) _
   have kh:vz B b l w2:=(h.iY dn).off dD (fun e=>hne e.symm) (fun g cur fz hg e=>by have e':g=d:=e;subst e';rw[Bo]at hg;injection hg with hg;injection hg with _ hg;exact absurd hg ag);have qg:=O (show Below B w w2 from((om dn).mono hB).trans (by rw[ez];exact(Below.refl B w1).setCell (p:=⟨d,0,none⟩) LH _));have oz:=O ez;clear ez dn dD Bo;have hee:(⟨(fI v).toArray⟩:ai)=bA (fI v):=rfl;rw[hee]
   cases bad with
   |true =>
    go_wp2_with fail
    rw[<-oz.o];refine(vA B b l w2 kh).mono ?_;rintro e wl⟨rfl,rfl⟩;by_cases h7:7<l.length
    ·have Xw:(7:Int)<(l.length:Int):=ab;go_wp2_with fail
     refine(dZ B b l ⟨#[44,32]⟩ w2 kh (by show l.length+2<=_;omega) (aE hB (qg.o).size)).mono ?_;rintro e wx⟨rfl,rj,ES,CE⟩;have PI:=(tO).L_ CE hne;have tu:=O ((qg.o).trans ES);clear CE ES;go_wp2_with fail
     rw[show bA nm++⟨#[61]⟩++bA (fI v)=bA (nm++61 :: (fI v))from V_ nm (fI v)];refine(dZ B b _ (bA (nm++61 :: (fI v))) wx rj (by show(l++[44,32]).length+(nm++61 :: (fI v)).length<=_;simp;omega) (aE hB tu.o.size)).mono ?_;rintro e wy⟨rfl,qD,E_,GH⟩;have GI:=PI.L_ GH hne;go_wp2;go_end0;refine⟨rfl,?_,(by rw[Xx];exact GI),tu.o.trans E_⟩
     have e:qf l nm (fI v)=l++(⟨#[44,32]⟩:ai).data.toList++(bA (nm++61 :: (fI v))).data.toList:=by unfold qf;rw[aA h7,fK];simp
     rw[RF,e];exact qD
    ·have Xw:¬(7:Int)<(l.length:Int):=ab;go_wp2_with fail
     rw[show bA nm++⟨#[61]⟩++bA (fI v)=bA (nm++61 :: (fI v))from V_ nm (fI v)];refine(dZ B b l (bA (nm++61 :: (fI v))) w2 kh (by show l.length+(nm++61 :: (fI v)).length<=_;simp;omega) (aE hB (qg.o).size)).mono ?_;rintro e wy⟨rfl,qD,E_,GH⟩;have GI:=(tO).L_ GH hne;go_wp2;go_end0;refine⟨rfl,?_,(by rw[Xx];exact GI),(qg.o).trans E_⟩
     have e:qf l nm (fI v)=l++(bA (nm++61 :: (fI v))).data.toList:=by unfold qf;rw[ar h7,fK];simp
     rw[RF,e];exact qD
   |false =>
    go_wp2_with fail
    rw[<-oz.o];refine(vA B b l w2 kh).mono ?_;rintro e wl⟨rfl,rfl⟩;by_cases h7:7<l.length
    ·have Xw:(7:Int)<(l.length:Int):=ab;go_wp2_with fail
     refine(dZ B b l ⟨#[44,32]⟩ w2 kh (by show l.length+2<=_;omega) (aE hB (qg.o).size)).mono ?_;rintro e wx⟨rfl,rj,ES,CE⟩;have PI:=(tO).L_ CE hne;have tu:=O ((qg.o).trans ES);clear CE ES;go_wp2_with fail
     rw[show bA nm++⟨#[61]⟩++bA (fI v)=bA (nm++61 :: (fI v))from V_ nm (fI v)];refine(dZ B b _ (bA (nm++61 :: (fI v))) wx rj (by show(l++[44,32]).length+(nm++61 :: (fI v)).length<=_;simp;omega) (aE hB tu.o.size)).mono ?_;rintro e wy⟨rfl,qD,E_,GH⟩;have GI:=PI.L_ GH hne;go_wp2;go_end0;refine⟨rfl,?_,(by rw[Xx];exact GI),tu.o.trans E_⟩
     have e:qf l nm (fI v)=l++(⟨#[44,32]⟩:ai).data.toList++(bA (nm++61 :: (fI v))).data.toList:=by unfold qf;rw[aA h7,fK];simp
     rw[RF,e];exact qD
    ·have Xw:¬(7:Int)<(l.length:Int):=ab;go_wp2_with fail
     rw[show bA nm++⟨#[61]⟩++bA (fI v)=bA (nm++61 :: (fI v))from V_ nm (fI v)];refine(dZ B b l (bA (nm++61 :: (fI v))) w2 kh (by show l.length+(nm++61 :: (fI v)).length<=_;simp;omega) (aE hB (qg.o).size)).mono ?_;rintro e wy⟨rfl,qD,E_,GH⟩;have GI:=(tO).L_ GH hne;go_wp2;go_end0;refine⟨rfl,?_,(by rw[Xx];exact GI),(qg.o).trans E_⟩
     have e:qf l nm (fI v)=l++(bA (nm++61 :: (fI v))).data.toList:=by unfold qf;rw[ar h7,fK];simp
     rw[RF,e];exact qD
  |false =>
   have RF:Ad true v=[]:=by unfold Ad;rw[ht];rfl
   have Xx:Ae true v=true:=by unfold Ae;rw[ht];rfl
   have z4:(bA []).size=0:=rfl;go_enter func106,ntmps106;go_wp2_with fail
   refine(EF (bA v) w ab).mono ?_;rintro e w1⟨rfl,dn⟩;rw[fK,ht];simp only[cG,eR];obtain⟨k0,k1⟩:=SW.o w1 dn;obtain⟨w2,ez⟩:∃w2,w2=w1.setCell ⟨d,0,none⟩ (.bool true):=⟨_,rfl⟩;have Bo:=dn.keep hd id;have tO:yO w2 d true:=by rw[ez];exact b_ Bo 0 (.bool true)
   have dD:Fr (one d) w1 w2:=by rw[ez];exact(ae (one d) w1).setCell (p:=⟨d,0,none⟩) (fun _=>rfl) _
   have kh:vz B b l w2:=(h.iY dn).off dD (fun e=>hne e.symm) (fun g cur fz hg e=>by have e':g=d:=e;subst e';rw[Bo]at hg;injection hg with hg;injection hg with _ hg;exact absurd hg ag);have qg:=O (show Below B w w2 from((om dn).mono hB).trans (by rw[ez];exact(Below.refl B w1).setCell (p:=⟨d,0,none⟩) LH _));have oz:=O ez;clear ez dn dD Bo;have hee:(⟨#[]⟩:ai)=bA []:=rfl;rw[hee];cases bad with
   |true =>
    go_wp2_with fail
    rw[<-oz.o];refine(vA B b l w2 kh).mono ?_;rintro e wl⟨rfl,rfl⟩;by_cases h7:7<l.length
    ·have Xw:(7:Int)<(l.length:Int):=ab;go_wp2_with fail
     refine(dZ B b l ⟨#[44,32]⟩ w2 kh (by show l.length+2<=_;omega) (aE hB (qg.o).size)).mono ?_;rintro e wx⟨rfl,rj,ES,CE⟩;have PI:=(tO).L_ CE hne;have tu:=O ((qg.o).trans ES);clear CE ES;go_wp2_with fail
     rw[show bA nm++⟨#[61]⟩++bA []=bA (nm++61 :: [])from V_ nm []];refine(dZ B b _ (bA (nm++61 :: [])) wx rj (by show(l++[44,32]).length+(nm++61 :: []).length<=_;simp;omega) (aE hB tu.o.size)).mono ?_;rintro e wy⟨rfl,qD,E_,GH⟩;have GI:=PI.L_ GH hne;go_wp2;go_end0;refine⟨rfl,?_,(by rw[Xx,jZ];exact GI),tu.o.trans E_⟩
     have e:qf l nm []=l++(⟨#[44,32]⟩:ai).data.toList++(bA (nm++61 :: [])).data.toList:=by unfold qf;rw[aA h7,fK];simp
     rw[RF,e];exact qD
    ·have Xw:¬(7:Int)<(l.length:Int):=ab;go_wp2_with fail
     rw[show bA nm++⟨#[61]⟩++bA []=bA (nm++61 :: [])from V_ nm []];refine(dZ B b l (bA (nm++61 :: [])) w2 kh (by show l.length+(nm++61 :: []).length<=_;simp;omega) (aE hB (qg.o).size)).mono ?_;rintro e wy⟨rfl,qD,E_,GH⟩;have GI:=(tO).L_ GH hne;go_wp2;go_end0;refine⟨rfl,?_,(by rw[Xx,jZ];exact GI),(qg.o).trans E_⟩;have e:qf l nm []=l++(bA (nm++61 :: [])).data.toList:=by unfold qf;rw[ar h7,fK];simp
     rw[RF,e];exact qD
   |false =>
    go_wp2_with fail
    rw[<-oz.o];refine(vA B b l w2 kh).mono ?_;rintro e wl⟨rfl,rfl⟩;by_cases h7:7<l.length
    ·have Xw:(7:Int)<(l.length:Int):=ab;go_wp2_with fail
     refine(dZ B b l ⟨#[44,32]⟩ w2 kh (by show l.length+2<=_;omega) (aE hB (qg.o).size)).mono ?_;rintro e wx⟨rfl,rj,ES,CE⟩;have PI:=(tO).L_ CE hne;have tu:=O ((qg.o).trans ES);clear CE ES;go_wp2_with fail
     rw[show bA nm++⟨#[61]⟩++bA []=bA (nm++61 :: [])from V_ nm []];refine(dZ B b _ (bA (nm++61 :: [])) wx rj (by show(l++[44,32]).length+(nm++61 :: []).length<=_;simp;omega) (aE hB tu.o.size)).mono ?_;rintro e wy⟨rfl,qD,E_,GH⟩;have GI:=PI.L_ GH hne;go_wp2;go_end0;refine⟨rfl,?_,(by rw[Xx,jZ];exact GI),tu.o.trans E_⟩
     have e:qf l nm []=l++(⟨#[44,32]⟩:ai).data.toList++(bA (nm++61 :: [])).data.toList:=by unfold qf;rw[aA h7,fK];simp
     rw[RF,e];exact qD
    ·have Xw:¬(7:Int)<(l.length:Int):=ab;go_wp2_with fail
     rw[show bA nm++⟨#[61]⟩++bA []=bA (nm++61 :: [])from V_ nm []];refine(dZ B b l (bA (nm++61 :: [])) w2 kh (by show l.length+(nm++61 :: []).length<=_;simp;omega) (aE hB (qg.o).size)).mono ?_;rintro e wy⟨rfl,qD,E_,GH⟩;have GI:=(tO).L_ GH hne;go_wp2;go_end0;refine⟨rfl,?_,(by rw[Xx,jZ];exact GI),(qg.o).trans E_⟩;have e:qf l nm []=l++(bA (nm++61 :: [])).data.toList:=by unfold qf;rw[ar h7,fK];simp
     rw[RF,e];exact qD
def aU.used(g:aU D):aU D:={g with count:=g.count+1}
def uX(gs:List (aU bE))(o:gy)(proxy:Bool)(path:ai):List (aU bE)×Except Nat (aU bE) :=
 if 0<=tD gs o proxy path then
  match gs[(tD gs o proxy path).toNat]? with
  |some g =>
   let l:=gs.take (tD gs o proxy path).toNat++gs.drop ((tD gs o proxy path).toNat+1)
   if 4294967295<=g.count then(l,.error 12)else(l++[g.used],.ok g.used)
  |none=>(gs,.error 8)
 else(gs,.error 8)
def qJ(base:Nat)(w:World)(b:Nat)(gv wv:Value)(ws:List (bJ bE))(u:List (aU bE)×Except Nat (aU bE))(e:Ending)(w':World):Prop :=
 km base w b gv wv u.1 ws w'/\match u.2 with
 | .error n=>e=.returned (.tuple #[.agg fc,.iface 82 (.int .i64 n)])
 | .ok g=>∃r:aU Value,e=.returned (.tuple #[.agg r.cells.toArray,.nilIface])/\r.Reads (cZ base w') g/\∀u∈r.cells,u.oneCell'=true
theorem km.same{base:Nat}{gv wv:Value}{gs:List (aU bE)}{ws:List (bJ bE)}(h:dB base w b gv wv gs ws)(hf:Fr aW w w'):km base w b gv wv gs ws w' :=
 ⟨gv,wv,h.dt hf,hf.mono (fun _ _ h=>absurd h id),fun _ hk=>Or.inl hk⟩
theorem My{base:Nat}{w5 w6:World}{b gg cap i n:Nat}{wv:Value}{ls:List (aU bE)}{ws:List (bJ bE)}{rs:List (aU Value)}(h5:dB base w5 b (.slice (some ⟨gg,0,none⟩) ls.length cap) wv ls ws)
  (hb:lf (aU.Reads (cZ base w5)) rs ls)(yN:OwnRows base 133 16 w6 (.slice (some ⟨gg,0,none⟩) (i+(ls.length-n)) cap) ((rs.map aU.cells).take i++(rs.map aU.cells).drop n))(nw:Fr (one gg) w5 w6) :
  dB base (w6.setCell ⟨b,0,none⟩ (.slice (some ⟨gg,0,none⟩) (i+(ls.length-n)) cap)) b (.slice (some ⟨gg,0,none⟩) (i+(ls.length-n)) cap) wv (ls.take i++ls.drop n) ws /\
  Fr (dh b (.slice (some ⟨gg,0,none⟩) ls.length cap) wv) w5 (w6.setCell ⟨b,0,none⟩ (.slice (some ⟨gg,0,none⟩) (i+(ls.length-n)) cap))/\w6.cell? ⟨b,0,none⟩=some (.slice (some ⟨gg,0,none⟩) ls.length cap)/\w6.frozen? ⟨b,0,none⟩=false:=by
 have kR:=h5.low;have dX:∀k,one gg k->own (.slice (some ⟨gg,0,none⟩) ls.length cap) k:=fun k hk=>by have e:k=gg:=hk;rw[e];rfl
 have mK:rL base w5 (one gg):=fun k hk hl=>h5.off k (Or.inr (Or.inl (dX k hk))) hl;have sG:=nw.keep h5.eG (fun h=>h5.gb (dX _ h));have zd:jS base w6 wv ws:=h5.waits.fr nw mK (fun k hk hg=>h5.gw (dX _ hg) hk);have hm:=hb.mono (fun _ _ h=>h.mono (fun _ _ h=>h.fr nw mK));have hg6:hD base w6 (.slice (some ⟨gg,0,none⟩) (i+(ls.length-n)) cap) (ls.take i++ls.drop n):=by
  refine⟨rs.take i++rs.drop n,?_,(hm.take i).app (hm.drop n)⟩;rw[bD,List.map_take,List.map_drop];exact yN
 have SU:Fr (dh b (.slice (some ⟨gg,0,none⟩) ls.length cap) wv) w5 w6:=nw.mono (fun k _ hk=>Or.inr (Or.inl (dX k hk)));exact⟨nC kR sG hg6 zd,SU.setCell (p:=⟨b,0,none⟩) (fun _=>Or.inl rfl) _,by simp[World.cell?,sG],by simp[World.frozen?,sG]⟩
theorem XZ(base:Nat)(w:World)(b:Nat)(gv wv:Value)(gs:List (aU bE))(ws:List (bJ bE))(o:gy)(proxy:Bool)(path:ai)(h:dB base w b gv wv gs ws)(Mt:gs.length<34359738368)(hcn:∀g∈gs,0<=g.count) :
  aC 70 #[.pointer (some ⟨b,0,none⟩),.agg o.cells.toArray,.bool proxy,.string path] w (qJ base w b gv wv ws (uX gs o proxy path)):=by
 unfold gy.cells;have tL:=h.lt;have kR:=h.low;have oQ:Fr aW w _:=((ae aW w).alloc (.cells #[.bool o.aG,.string o.host,.int .i64 o.port] 24)).alloc (.cells fc 133);have b1:=aB (w.alloc (.cells #[.bool o.aG,.string o.host,.int .i64 o.port] 24)) (.cells fc 133);rw[show(w.alloc (.cells #[.bool o.aG,.string o.host,.int .i64 o.port] 24)).heap.size=w.heap.size+1 from aQ]at b1;have h1:=h.dt oQ
 have aaa:=O (TF base _ b gv wv gs ws o proxy path h1);have TN:=O b1;clear b1;go_enter func70,ntmps70;go_wp2_with fail
 generalize (w.alloc (.cells _ 24)).alloc _=W at *
 refine aaa.o.mono ?_;rintro e u1⟨rfl,dn⟩;have TH:=O (dn.keep TN.o id);have HF:=oQ.trans dn;have h2:=h1.dt dn;clear aaa TN oQ dn h1;have zQ:w.heap.size+1<u1.heap.size:=bg TH.o;rcases TJ gs o proxy path with ⟨k,hk,he⟩|he
 ·obtain⟨bk,c,dD,si,r,dX,hr,hcell⟩:=h2.bW.at hk;subst dD;unfold maxLen at si;have d0:=h2.c0;obtain⟨x,hx⟩:∃x,x=r.cells:=⟨_,rfl⟩;have lr:x.length=16:=by rw[hx];rfl
  have iM:=fun W=>run_storeCells_new (P:=prog) W 133 #[.bool false,.string ⟨#[]⟩,.int .i64 0,.bool false,.string ⟨#[]⟩,.string ⟨#[]⟩,.int .i64 0,.string ⟨#[]⟩,.string ⟨#[]⟩,.string ⟨#[]⟩,.bool false,.string ⟨#[]⟩,.bool false,.slice none 0 0,.int .i64 0,.slice none 0 0] x (by rw[lr];rfl) (by rw[hx];exact dX);have Fo:=O (show(prog.info? 133).map (·.size)=some x.length by rw[lr];kernel_rfl)
  have Mz:r.count=gs[k].count:=hr.2.2.2.2.2.1;have hc0:0<=r.count:=by rw[Mz];exact hcn _ (bL hk)
  have HX:=O hx;have HE:=O he;rw[<-hx]at hcell;have hub:b<u1.heap.size:=h2.lt;have iv:Fr aW u1 (u1.alloc (.cells x.toArray 133)):=(ae aW u1).alloc _;have rj:(u1.alloc (.cells x.toArray 133)).heap[u1.heap.size]?=some (.cells x.toArray 133 (0,0)):=aB _ _;have h3:=h2.dt iv;have rh:=hr.mono (fun _ _ h=>h.dt iv);obtain⟨rs,ho,hb⟩:=h3.bW;have uQ:=O (show(rs.map aU.cells).length=gs.length by rw[aj,hb.len])
  have ql:=O (Fs base bk c k (k+1) (rs.map aU.cells) _ (by rw[uQ.o];exact ho) ab (by rw[uQ.o];omega));rw[uQ.o,show((k+1:Nat):Int)=(k:Int)+1 from ab]at ql;have al0:bk<u1.heap.size:=by
   obtain⟨cc,e⟩:=h2.tF (k:=bk) rfl;exact bg e
  have tu:=O rj;have HCO:=O Mz;have TP:=O rh;have wP:=O dX;rw[he];clear hx he rj Mz hr rh dX h2;go_wp2_with (first|((with_reducible refine dv 27 ?_);refine a_ rfl 133 (.tmp 26) rfl bk (k*16) rfl x _ hcell underlying133 rfl Fo.o ?_)|fail)
  clear iM hcell d0;have il:base<=u1.heap.size:=ab;have Qe:Fr aW w (u1.alloc (.cells x.toArray 133)):=HF.alloc _;have ES:u1.heap.size<(u1.alloc (.cells x.toArray 133)).heap.size:=aQ;have b1v:=O (iv.keep TH.o id);generalize u1.alloc (.cells x.toArray 133)=V at *
  refine ql.o.mono ?_;rintro e w2⟨rfl,qE,dD⟩;obtain⟨h4,RQ,d2,e2⟩:=My h3 hb (by exact qE) dD;obtain⟨l,hl⟩:∃l,l=gs.take k++gs.drop (k+1):=⟨_,rfl⟩;have hm:k+(gs.length-(k+1))=l.length:=by rw[hl,aM,aL,bH];omega
  have hlen:l.length<=gs.length:=ab;rw[<-hl]at h4;rw[hm]at h4 RQ ⊢;have HL:=O hl;clear hl hm;have JZ:rL base V (own (.slice (some ⟨bk,0,none⟩) gs.length c)):=ho.off (ay _) ag;have J0:rL base V (one bk):=fun j hj hl=>JZ j (by have e:j=bk:=hj;rw[e];rfl) hl;have ze:=dD.keep tu.o (fun h=>by have e:u1.heap.size=bk:=h;omega)
  have TQ:=dD.keep b1v.o (fun hh=>by have e:w.heap.size+1=bk:=hh;obtain⟨cc,e2⟩:=h.tF (k:=bk) rfl;have:=bg e2;omega);have vh:=TP.o.mono (fun _ _ h=>h.fr dD J0);have c14:w2.cell? ⟨u1.heap.size,14,none⟩=some (.int .i64 r.count):=by
   have e:=HX.o;simp only[World.cell?,ze,e];rfl
  have f14:w2.frozen? ⟨u1.heap.size,14,none⟩=false:=by simp[World.frozen?,ze]
  have TS:w2.heap[b]?=some (.cells #[.slice (some ⟨bk,0,none⟩) gs.length c,wv] 118 (0,0)):=dD.keep h3.eG (fun h=>h3.gb (by have e:b=bk:=h;rw[e];rfl));have j6:Fr (one b) w2 (w2.setCell ⟨b,0,none⟩ (.slice (some ⟨bk,0,none⟩) l.length c)):=(ae (one b) w2).setCell (p:=⟨b,0,none⟩) (fun _=>rfl) _;have TT:rL base w2 (one b):=by
   rintro j rfl _;exact⟨kR,fun cc f e=>by rw[TS]at e;cases e⟩
  have Dh:=j6.keep ze (fun h=>by have e:u1.heap.size=b:=h;omega);have Qf:=j6.keep TQ (fun h=>by have e:w.heap.size+1=b:=h;omega);have AZ:=vh.mono (fun _ _ h=>h.fr j6 TT);have hFw:Fr (dh b (.slice (some ⟨bk,0,none⟩) gs.length c) wv) w (w2.setCell ⟨b,0,none⟩ (.slice (some ⟨bk,0,none⟩) l.length c)):=fL (Qe.mono (fun _ _ h=>absurd h id)) RQ (fun _ _ h=>h)
  have kP:∀j,dh b (.slice (some ⟨bk,0,none⟩) l.length c) wv j->dh b (.slice (some ⟨bk,0,none⟩) gs.length c) wv j:=fun j hj=>by
   rcases hj with h|h|h
   ·exact Or.inl h
   ·exact Or.inr (Or.inl h)
   ·exact Or.inr (Or.inr h)
  have H4:=O h4;have rq:=O hFw
  try clear ql
  try clear qE
  try clear ho
  try clear hb
  try clear TS
  try clear j6
  try clear TT
  try clear ze
  try clear TQ
  try clear vh
  try clear RQ
  try clear J0
  try clear JZ
  try clear h3
  try clear Qe
  try clear RQ
  try clear tu
  try clear TP
  try clear b1v
  try clear TH
  try clear HF
  try clear h4
  try clear hFw
  have ab8:=O Dh;have TU:=O Qf;clear Dh Qf;by_cases aab:4294967295<=r.count
  ·have hu:=O (show uX gs o proxy path=(l,.error 12)by
    rw[HL.o];unfold uX;rw[HE.o,aA ab,show((k:Int)).toNat=k from aQ,List.getElem?_eq_getElem hk];simp only;rw[<-HCO.o,aA aab])
   go_wp2_with (first|((with_reducible refine cP 133 ?_);refine aF rfl 133 (.tmp 8) (.tmp 42) rfl (w.heap.size+1) fc rfl rfl _ fc TU.o af rfl xT ?_)|fail)
   refine aR (results_cell_tmp bw _ _ (w.heap.size+1) 133 fc (0,0) _ rfl (aY _ (w.heap.size+1) _ _ _ _ TU.o) underlying133 rfl af) rfl ?_;unfold qJ;rw[hu.o];have hFr:Fr (one (w.heap.size+1)) (w2.setCell ⟨b,0,none⟩ (.slice (some ⟨bk,0,none⟩) l.length c)) ((w2.setCell ⟨b,0,none⟩ (.slice (some ⟨bk,0,none⟩) l.length c)).setRow (w.heap.size+1) fc):=(ae (one (w.heap.size+1)) _).setRow (fun _=>rfl) _
   have hne:∀j,dh b (.slice (some ⟨bk,0,none⟩) gs.length c) wv j->j<w.heap.size:=fun j hj=>by
    rcases hj with hj|hj|hj
    ·omega
    ·obtain⟨cc,e⟩:=h.tF hj;exact bg e
    ·obtain⟨cc,e⟩:=h.vP hj;exact bg e
   refine⟨⟨_,_,H4.o.fr hFr ?_ ?_ ?_ ?_,rq.o.step hFr ?_,fun j hj=>Or.inl (kP j hj)⟩,rfl⟩
   ·rintro j rfl _;exact⟨ab,fun cc f e=>by rw[TU.o]at e;cases e⟩
   ·intro hh;have e:b=w.heap.size+1:=hh;omega
   ·intro j hj hh;have e:j=w.heap.size+1:=hh;have:=hne j (kP j (Or.inr (Or.inl hj)));omega
   ·intro j hj hh;have e:j=w.heap.size+1:=hh;have:=hne j (kP j (Or.inr (Or.inr hj)));omega
   ·intro j hj hh;have e:j=w.heap.size+1:=hh;omega
  ·have hu:=O (show uX gs o proxy path=(l++[gs[k].used],.ok gs[k].used)by
    rw[HL.o];unfold uX;rw[HE.o,aA ab,show((k:Int)).toNat=k from aQ,List.getElem?_eq_getElem hk];simp only;rw[<-HCO.o,ar aab])
   have hne:∀j,dh b (.slice (some ⟨bk,0,none⟩) gs.length c) wv j->j<w.heap.size:=fun j hj=>by
    rcases hj with hj|hj|hj
    ·omega
    ·obtain⟨cc,e⟩:=h.tF hj;exact bg e
    ·obtain⟨cc,e⟩:=h.vP hj;exact bg e
   go_wp2_with fail
   clear d2 e2 c14 f14;generalize w2.setCell ⟨b,0,none⟩ (.slice (some ⟨bk,0,none⟩) l.length c)=w3 at *
   have agh:(w3.setCell ⟨u1.heap.size,14,none⟩ (.int .i64 (r.count+1))).heap[u1.heap.size]?=some (.cells r.used.cells.toArray 133 (0,0)):=by
    have e:=ab8.o;rw[HX.o]at e;exact b_ e 14 _
   have IU:Fr (one u1.heap.size) w3 (w3.setCell ⟨u1.heap.size,14,none⟩ (.int .i64 (r.count+1))):=(ae (one u1.heap.size) w3).setCell (p:=⟨u1.heap.size,14,none⟩) (fun _=>rfl) _;have ab9:rL base w3 (one u1.heap.size):=by
    rintro j rfl _;exact⟨il,fun cc f e=>by rw[ab8.o]at e;cases e⟩
   have pN:¬dh b (.slice (some ⟨bk,0,none⟩) l.length c) wv u1.heap.size:=fun hh=>by
    have:=hne _ (kP _ hh);omega
   have h5:=H4.o.fr IU ab9 (fun hh=>by have e:b=u1.heap.size:=hh;omega) (fun j hj hh=>by have e:j=u1.heap.size:=hh;subst e;exact pN (Or.inr (Or.inl hj))) (fun j hj hh=>by have e:j=u1.heap.size:=hh;subst e;exact pN (Or.inr (Or.inr hj)));have Ig:aU.Reads (cZ base (w3.setCell ⟨u1.heap.size,14,none⟩ (.int .i64 (r.count+1)))) r.used gs[k].used:=by
    obtain⟨q1,q2,q3,q4,q5,q6,q7⟩:=AZ.mono (fun _ _ h=>h.fr IU ab9);exact⟨q1,q2,q3,q4,q5,by show r.count+1=gs[k].count+1;rw[q6],q7⟩
   have agi:=O (IU.keep TU.o (fun hh=>by have e:w.heap.size+1=u1.heap.size:=hh;omega));have ab_:Fr (dh b (.slice (some ⟨bk,0,none⟩) gs.length c) wv) w (w3.setCell ⟨u1.heap.size,14,none⟩ (.int .i64 (r.count+1))):=rq.o.step IU (fun j hj hh=>by have e:j=u1.heap.size:=hh;omega);have aac:∀u∈r.used.cells,u.oneCell'=true:=by
    intro u hu;simp only[aU.cells,aU.used,bu,cg,dS]at hu;have ho:=wP.o;simp only[aU.cells,bu,cg,dS]at ho;rcases hu with rfl|rfl|rfl|rfl|rfl|rfl|rfl|rfl|rfl|rfl|rfl|rfl|rfl|rfl|rfl|rfl<;>first|rfl|exact ho _ aQ
   have aad:=O aac;have ab':=O agh;have Ik:=O Ig;have ar4:w.heap.size<=w3.heap.size:=rq.o.size;clear aac AZ IU ab9 ab8 TU H4 rq agh Ig;generalize w3.setCell ⟨u1.heap.size,14,none⟩ (.int .i64 (r.count+1))=w4 at *
   have ob:∀i u,r.used.cells[i]?=some u->w4.cell? ⟨u1.heap.size,i,none⟩=some u:=fun i u hu=>by
    simp only[World.cell?,ab'.o];simpa using hu
   have x0:=ob 0 _ rfl;have x1:=ob 1 _ rfl;have x2:=ob 2 _ rfl;have x3:=ob 3 _ rfl;have x4:=ob 4 _ rfl;have x5:=ob 5 _ rfl;have x6:=ob 6 _ rfl;have x7:=ob 7 _ rfl;have x8:=ob 8 _ rfl;have x9:=ob 9 _ rfl;have XX:=ob 10 _ rfl;have XY:=ob 11 _ rfl;have x12:=ob 12 _ rfl;have x13:=ob 13 _ rfl;have x14:=ob 14 _ rfl;have x15:=ob 15 _ rfl;have d0:=h5.c0;have e0:=h5.free 0;have tC:b<w4.heap.size:=h5.lt
   have Xn:u1.heap.size<w4.heap.size:=bg ab'.o;obtain⟨i0,ri,oZ,kI,kS⟩:=info_parts xS;obtain⟨rs5,Lq,Eu⟩:=h5.bW;have HO5:=O Lq;have HB5:=O Eu;have J1:w4.ownsRow base 133 16 (.slice (some ⟨bk,0,none⟩) l.length c) l.length (rs5.map aU.cells).flatten:=by
    have hh:=Lq.2;rw[aj,Eu.len]at hh;exact hh
   have zO:¬own (.slice (some ⟨bk,0,none⟩) l.length c) b:=h5.gb;clear Lq Eu ob;simp only[aU.used]at x0 x1 x2 x3 x4 x5 x6 x7 x8 x9 XX XY x12 x13 x14 x15
   go_region_law ((with_reducible refine mG ⟨some 55,_,_,_,_,_⟩ ?_)
                  refine step_append_lies _ bw _ _ _ bw base 133 i0 _ 16 216 underlying85 ri oZ kI kS rfl ab (.slice (some ⟨bk,0,none⟩) l.length c) l.length _ bw (by repeat(first|exact J1|apply World.ownsRow.alloc|apply World.ownsRow.drew)) ⟨w4.heap.size,0,none⟩ 1 1 r.used.cells bw bw (kB w4 r.used.cells _) aad.o ab fl ab bF (w4.heap.size+1) aQ ?_
                  intro gg cap w5 vF jk dL abz
                  have qH:Fr (own (.slice (some ⟨bk,0,none⟩) l.length c)) w4 w5:=fg (by repeat(first|exact ae _ _|apply az|apply bq)) jk (fun _ hk _=>hk)
                  have k4:w5.cell? ⟨b,0,none⟩=some (.slice (some ⟨bk,0,none⟩) l.length c):=(qH.cell (p:=⟨b,0,none⟩) tC zO).trans d0
                  have e4:w5.frozen? ⟨b,0,none⟩=false:=(qH.frozen (p:=⟨b,0,none⟩) tC zO).trans e0)
   all_goals
    obtain⟨h6,hF6,Et⟩:=Fu (m:=gs[k].used) h5 HO5.o HB5.o (ae _ _) Ik.o aad.o qH vF (dL.imp id (fun h=>ab));have hnr:¬dh b (.slice (some ⟨bk,0,none⟩) l.length c) wv (w.heap.size+1):=fun hh=>by have:=hne _ (kP _ hh);omega
    have agk:=O (hF6.keep ab'.o pN);have al1:=O (hF6.keep agi.o hnr);have RD:=Ik.o.mono (fun _ _ h=>h.fr hF6 h5.off);have al2:=O (ab_.step hF6 (fun j hj hb=>kP j hb));have X0:∀j,dh b (.slice (some ⟨gg,0,none⟩) (l.length+1) cap) wv j->dh b (.slice (some ⟨bk,0,none⟩) gs.length c) wv j\/w.heap.size<=j:=fun j hj=>by
     rcases Et j hj with h|h
     ·exact Or.inl (kP j h)
     ·exact Or.inr (by have:=ab_.size;omega)
    have H6:=O h6;have BD:base<=(w5.setCell ⟨b,0,none⟩ (.slice (some ⟨gg,0,none⟩) (l.length+1) cap)).heap.size:=by have:=h6.lt;omega
    have fy:=O (ug base r.used gs[k].used _ BD RD);clear x0 x1 x2 x3 x4 x5 x6 x7 x8 x9 XX XY x12 x13 x14 x15 d0 e0 k4 e4 jk vF J1 h6 hF6 RD qH h5 BD;generalize w5.setCell ⟨b,0,none⟩ (.slice (some ⟨gg,0,none⟩) (l.length+1) cap)=w6 at *
    obtain⟨y,hy⟩:∃y,y=r.used.cells:=⟨_,rfl⟩;have ET:y.length=16:=by rw[hy];rfl
    rw[<-hy]at agk fy;have hyi:=O (show(prog.info? 133).map (·.size)=some y.toArray.size by rw[ba,ET];kernel_rfl);clear hy;go_wp2_with (first|((with_reducible refine dv 58 ?_);refine aJ rfl 133 (.tmp 11) rfl u1.heap.size rfl _ y.toArray (0,0) _ agk.o underlying133 rfl hyi.o ?_)|fail)
    refine fy.o.mono ?_;intro e w7 Mu;obtain⟨r7,rfl,RD,TV,oa⟩:=Mu;have b7:=O (oa.keep al1.o id);have h7:=H6.o.dt oa;have RP:=al2.o.trans (oa.mono (fun _ _ h=>absurd h id));have Bw:(prog.info? 133).map (·.size)=some r7.cells.toArray.size:=af;obtain⟨z,hz⟩:∃z,z=r7.cells:=⟨_,rfl⟩;have HZ:=O hz;have agl:=O TV;rw[<-hz]at Bw TV ⊢;have kI:=O (bU TV);have V8:=O (show fc.size=z.toArray.size by rw[hz];rfl)
    clear hz fy;go_wp2_with (first|((with_reducible refine cP 133 ?_);refine aF rfl 133 (.tmp 8) (.tmp 59) rfl (w.heap.size+1) z.toArray rfl rfl _ fc b7.o Bw V8.o kI.o ?_)|fail)
    have rA:rL base w7 (one (w.heap.size+1)):=by
     rintro j rfl hj;exact⟨ab,fun c f e=>by rw[b7.o]at e;cases e⟩
    have kx:Fr (one (w.heap.size+1)) w7 (w7.setRow (w.heap.size+1) z.toArray):=(ae (one (w.heap.size+1)) w7).setRow (fun _=>rfl) _;refine aR (results_cell_tmp bw _ _ (w.heap.size+1) 133 z.toArray (0,0) _ rfl (aY w7 (w.heap.size+1) _ _ _ _ b7.o) underlying133 rfl Bw) rfl ?_;have acb:¬dh b (.slice (some ⟨gg,0,none⟩) (l.length+1) cap) wv (w.heap.size+1):=fun hh=>by
     have hk7:∃cc t f,w7.heap[w.heap.size+1]?=some (.cells cc t f):=⟨_,_,_,b7.o⟩;rcases Et _ hh with h8|h8
     ·exact hnr h8
     ·have:=ab_.size;have:=bg agi.o;omega
    unfold qJ;rw[hu.o];rw[HZ.o]at *
    refine⟨⟨_,_,h7.fr kx rA (fun hh=>acb (Or.inl (by have e:b=w.heap.size+1:=hh;rw[e]))) (fun j hj hh=>acb (Or.inr (Or.inl (by have e:j=w.heap.size+1:=hh;rw[<-e];exact hj)))) (fun j hj hh=>acb (Or.inr (Or.inr (by have e:j=w.heap.size+1:=hh;rw[<-e];exact hj)))),RP.step kx (fun j hj hh=>by have e:j=w.heap.size+1:=hh;omega),X0⟩,r7,rfl,RD.mono (fun _ _ h=>h.fr kx rA),agl.o⟩
 ·have hu:=O (show uX gs o proxy path=(gs,.error 8)by unfold uX;rw[he];rfl);rw[he];have hp:=km.same h (HF.setRow (g:=w.heap.size+1) (fun h=>absurd h ab) fc);clear h2 h;go_wp2_with (first|((with_reducible refine cP 133 ?_);refine aF rfl 133 (.tmp 8) (.tmp 19) rfl (w.heap.size+1) fc rfl rfl _ fc TH.o af rfl xT ?_)|fail)
  refine aR (results_cell_tmp bw _ _ (w.heap.size+1) 133 fc (0,0) _ rfl (aY u1 (w.heap.size+1) _ _ _ _ TH.o) underlying133 rfl af) rfl ?_;unfold qJ;rw[hu.o];exact⟨hp,rfl⟩
