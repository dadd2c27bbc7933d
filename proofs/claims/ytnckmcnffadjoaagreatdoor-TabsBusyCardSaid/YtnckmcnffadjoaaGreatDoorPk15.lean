/- Lemmas for the law's walk. -/
import Derived.Test.YtnckmcnffadjoaaGreatDoorPk14
set_option maxRecDepth 100000
set_option maxHeartbeats 16000000
set_option linter.unusedSimpArgs false
namespace Go.Proofs.YtnckmcnffadjoaaGreatDoor
open Go.Proofs.Tryz
open Go.RowKit
variable {base b k c i n:Nat} {w w':World} {e:TypeId} {v:Value} {xs:List nu} {S:Nat->Prop} {s:aj} {p:ef} {ps:List jy}
def Yi(o:gz)(g:aP bD):Bool:=g.o.ll o
def N5(o:gz)(g:bI bD):Bool:=g.o.ll o
def Qo(o:gz)(x:List Value):Bool:=(ahe x).ll o
theorem N6(g:aP Value)(o:gz)(bo:Nat)(w:World)(ho:w.heap[bo]?=some (.cells #[.bool o.aF,.string o.host,.int .i64 o.port] 32 (0,0))) :
  Calls prog 143 #[.agg g.cells.toArray,.pointer (some ⟨bo,0,none⟩)] w fun e w'=>e=.returned (.bool (Qo o g.cells))/\Fr aR w w':=by
 have hC:=O (show Qo o g.cells=g.o.ll o from rfl);have heq:=jz g.o o;rw[hC.o];unfold aP.cells;have gS:Fr aR w _:=(ae aR w).alloc (.cells #[.bool g.o.aF,.string g.o.host,.int .i64 g.o.port,.bool g.proxy,.string g.user,.string g.pass,.int .i64 g.a.scheme,.string g.a.aK,.string g.a.bq,.string g.a.cj,.bool g.a.cy,.string g.a.eE,.bool g.a.cM,g.a.dom,.int .i64 g.count,g.paths] 114)
 have q_:=O (gS.keep ho id);clear hC ho;go_enter func143,ntmps143;go_wp2_with (first|((with_reducible refine cY 6 ?_);refine aH rfl 32 (.tmp 1) rfl bo rfl _ _ (0,0) _ q_.o underlying32 rfl af ?_)|fail)
 go_ret;exact⟨rfl,gS⟩
theorem N7(g:bI Value)(o:gz)(bo:Nat)(w:World)(ho:w.heap[bo]?=some (.cells #[.bool o.aF,.string o.host,.int .i64 o.port] 32 (0,0))) :
  Calls prog 145 #[.agg g.cells.toArray,.pointer (some ⟨bo,0,none⟩)] w fun e w'=>e=.returned (.bool (Qo o g.cells))/\Fr aR w w':=by
 have hC:=O (show Qo o g.cells=g.o.ll o from rfl);have heq:=jz g.o o;rw[hC.o];unfold bI.cells;have gS:Fr aR w _:=(ae aR w).alloc (.cells #[.bool g.o.aF,.string g.o.host,.int .i64 g.o.port,.bool g.proxy,.string g.path,.int .i64 g.a.scheme,.string g.a.aK,.string g.a.bq,.string g.a.cj,.bool g.a.cy,.string g.a.eE,.bool g.a.cM,g.a.dom] 133);have q_:=O (gS.keep ho id);clear hC ho
 go_enter func145,ntmps145;go_wp2_with (first|((with_reducible refine cY 6 ?_);refine aH rfl 32 (.tmp 1) rfl bo rfl _ _ (0,0) _ q_.o underlying32 rfl af ?_)|fail)
 go_ret;exact⟨rfl,gS⟩
theorem Ei(S:Nat->Prop)(w:World)(o:gz)(bo:Nat)(rs:List (aP Value))
  (ho:w.heap[bo]?=some (.cells #[.bool o.aF,.string o.host,.int .i64 o.port] 32 (0,0)))(h1:¬S bo) :
  gO S w 143 #[.pointer (some ⟨bo,0,none⟩)] (Qo o) (rs.map aP.cells):=by
 intro x hx u hu;obtain⟨r,hr0,rfl⟩:=bV.1 hx;exact N6 r o bo u (hu.keep ho h1)
theorem Ej(S:Nat->Prop)(w:World)(o:gz)(bo:Nat)(rs:List (bI Value))
  (ho:w.heap[bo]?=some (.cells #[.bool o.aF,.string o.host,.int .i64 o.port] 32 (0,0)))(h1:¬S bo) :
  gO S w 145 #[.pointer (some ⟨bo,0,none⟩)] (Qo o) (rs.map bI.cells):=by
 intro x hx u hu;obtain⟨r,hr0,rfl⟩:=bV.1 hx;exact N7 r o bo u (hu.keep ho h1)
theorem RO{r:aP Value}{g:aP bD}(h:aP.Reads (dr base w) r g)(o:gz):Qo o r.cells=Yi o g:=by
 unfold Yi;rw[<-h.1];rfl
theorem N8{r:bI Value}{g:bI bD}(h:bI.Reads (dr base w) r g)(o:gz):Qo o r.cells=N5 o g:=by
 unfold N5;rw[<-h.1];rfl
theorem kl.zW{base:Nat}{w:World}{v:Value}{rs:List (bI Value)}{gs:List (bI bD)}{p:List Value->Bool}{q:bI bD->Bool}(h1:OwnRows base 133 13 w v ((rs.map bI.cells).filter (fun x=>!p x)))(h2:lg (bI.Reads (dr base w)) rs gs)
  (hpq:∀r g,bI.Reads (dr base w) r g->p r.cells=q g):kl base w v (gs.filter (fun g=>!q g))/\((rs.map bI.cells).filter (fun x=>!p x)).length=(gs.filter (fun g=>!q g)).length:=by
 have hb:lg (bI.Reads (dr base w)) (rs.filter (fun r=>!p r.cells)) (gs.filter (fun g=>!q g)):=h2.filter (fun r g h=>by rw[hpq r g h]);have he:(rs.map bI.cells).filter (fun x=>!p x)=(rs.filter (fun r=>!p r.cells)).map bI.cells:=by rw[List.filter_map];rfl
 refine⟨⟨_,by rw[he]at h1;exact h1,hb⟩,?_⟩;rw[he,ai,hb.len]
def xp(base:Nat)(w:World)(b:Nat)(gv wv:Value)(gs:List (aP bD))(ws:List (bI bD))(o:gz)(e:Ending)(w':World):Prop :=
 e=.returned (.int .i64 ((gs.length:Int)-((gs.filter (fun g=>!Yi o g)).length:Int)))/\kF base w b gv wv (gs.filter (fun g=>!Yi o g)) (ws.filter (fun g=>!N5 o g)) w'
theorem GP(base:Nat)(w:World)(b:Nat)(gv wv:Value)(gs:List (aP bD))(ws:List (bI bD))(o:gz)(h:dB base w b gv wv gs ws)(NY:gs.length<34359738368) :
  Calls prog 70 #[.pointer (some ⟨b,0,none⟩),.agg o.cells.toArray] w (xp base w b gv wv gs ws o):=by
 unfold gz.cells;obtain⟨av,cv,hv⟩:=h.bF.form;obtain⟨aw,cw,hw⟩:=h.waits.form;subst hv hw;have sO:=h.lt;have lp:=h.low;have pg:Fr aR w (w.alloc (.cells #[.bool o.aF,.string o.host,.int .i64 o.port] 32)):=(ae aR w).alloc _;have b0:(w.alloc (.cells #[.bool o.aF,.string o.host,.int .i64 o.port] 32)).heap[w.heap.size]?=some (.cells #[.bool o.aF,.string o.host,.int .i64 o.port] 32 (0,0)):=aB _ _
 have h1:=h.dh pg;have h0:=h1.c0;have B0:=O b0;clear b0;go_enter func70,ntmps70;go_wp2_with fail
 clear h0;generalize w.alloc (.cells _ 32)=W at *
 obtain⟨rs,Bb,q_⟩:=h1.bF;have hW:w.heap.size<=W.heap.size:=pg.size;have Yh:∀k,own (.slice av gs.length cv) k->k<w.heap.size:=fun k hk=>by
  obtain⟨c,e⟩:=h.uj hk;exact bj e
 have hkw:∀k,own (.slice aw ws.length cw) k->k<w.heap.size:=fun k hk=>by
  obtain⟨c,e⟩:=h.wQ hk;exact bj e
 have hd:=O (xX base 143 #[.pointer (some ⟨w.heap.size,0,none⟩)] (Qo o) _ _ W call143
  (Ei _ W o w.heap.size rs B0.o (fun hk=>by have:=Yh _ hk;omega)) Bb)
 refine hd.o.mono ?_;rintro e w2⟨a2,c2,rfl,yp,dy,fy⟩;have Vo:=q_.mono (fun _ _ h=>h.mono (fun _ _ h=>h.fr dy (fun k hk hl=>h1.off k (Or.inr (Or.inl hk)) hl)));obtain⟨Yb,ZM⟩:=f_.zW yp Vo (fun r g h=>RO h o);rw[ZM]at Yb fy ⊢;have kC:=dy.keep h1.eI h1.gb;have eB:=h1.waits.fr dy (fun k hk hl=>h1.off k (Or.inr (Or.inl hk)) hl) (fun k hk hg=>h1.gw hg hk);have qV:=nL lp kC Yb eB
 have c0:w2.cell? ⟨b,0,none⟩=some (.slice av gs.length cv):=by simp[World.cell?,kC]
 have f0:w2.frozen? ⟨b,0,none⟩=false:=by simp[World.frozen?,kC]
 have ZB:Fr (dt b (.slice av gs.length cv) (.slice aw ws.length cw)) w w2:=fX (pg.mono (fun _ _ h=>absurd h id)) dy (fun k _ hk=>Or.inr (Or.inl hk));have HB:=ZB.setCell (p:=⟨b,0,none⟩) (fun _=>Or.inl rfl) (.slice a2 (gs.filter (fun g=>!Yi o g)).length c2);have aiv:=dy.keep B0.o (fun hk=>by have:=Yh _ hk;omega)
 have aee:(w2.setCell ⟨b,0,none⟩ (.slice a2 (gs.filter (fun g=>!Yi o g)).length c2)).heap[w.heap.size]?=_:=(tH ab 0 _).trans aiv;have ln:∀k,dt b (.slice a2 (gs.filter (fun g=>!Yi o g)).length c2) (.slice aw ws.length cw) k->dt b (.slice av gs.length cv) (.slice aw ws.length cw) k\/w.heap.size<=k:=by
  intro k hk;unfold dt at hk;rw[fy]at hk;exact Or.inl hk
 have zU:(gs.filter (fun g=>!Yi o g)).length<=gs.length:=bQ _ _;clear hd Bb q_ Vo yp kC eB Yb h1 Yh ZM ZB aiv;obtain⟨fs,kJ⟩:∃fs,fs=gs.filter (fun g=>!Yi o g):=⟨_,rfl⟩;rw[<-kJ]at qV fy HB ln aee zU ⊢;have Vp:=O kJ;have aiw:=O qV;have HBO:=O aee;have k1:=qV.c1;clear kJ qV aee;go_wp2_with fail
 clear c0 f0 k1;generalize w2.setCell ⟨b,0,none⟩ (.slice a2 fs.length c2)=w3 at *
 have h3:=aiw.o;obtain⟨rw',hq1,hq2⟩:=h3.waits;have hd:=O (FI base 145 #[.pointer (some ⟨w.heap.size,0,none⟩)] (Qo o) _ _ w3 call145
  (Ej _ w3 o w.heap.size rw' HBO.o (fun hk=>by have:=hkw _ hk;omega)) hq1)
 refine hd.o.mono ?_;rintro e w4⟨a4,c4,rfl,ZE,kK,eY⟩;have aix:=hq2.mono (fun _ _ h=>h.mono (fun _ _ h=>h.fr kK (fun k hk hl=>h3.off k (Or.inr (Or.inr hk)) hl)));obtain⟨hwi,Fh⟩:=kl.zW ZE aix (fun r g h=>N8 h o);rw[Fh]at hwi eY ⊢;have vL:=kK.keep h3.eI h3.wb;have Ct:=h3.bF.fr kK (fun k hk hl=>h3.off k (Or.inr (Or.inr hk)) hl) (fun k hk hg=>h3.gw hk hg);have qV:=dB.ad1 lp vL Ct hwi
 have c1:w4.cell? ⟨b,1,none⟩=some (.slice aw ws.length cw):=by simp[World.cell?,vL]
 have f1:w4.frozen? ⟨b,1,none⟩=false:=by simp[World.frozen?,vL]
 have ZS:=HB.step kK (fun k _ hk=>Or.inr (Or.inr hk));have HB5:=ZS.setCell (p:=⟨b,1,none⟩) (fun _=>Or.inl rfl) (.slice a4 (ws.filter (fun g=>!N5 o g)).length c4);have Vx:∀k,dt b (.slice a2 fs.length c2) (.slice a4 (ws.filter (fun g=>!N5 o g)).length c4) k->dt b (.slice av gs.length cv) (.slice aw ws.length cw) k\/w.heap.size<=k:=by
  intro k hk;refine ln k ?_;unfold dt at hk ⊢;rw[eY]at hk;exact hk
 obtain⟨fw,M3⟩:∃fw,fw=ws.filter (fun g=>!N5 o g):=⟨_,rfl⟩;rw[<-M3]at qV eY HB5 Vx ⊢;have rO:=O M3;have aiy:=O qV;have aoi:=O HB5;have k0:=qV.c0;clear M3 qV hd hq1 hq2 aix ZE hwi Fh vL Ct h3 HB ZS HB5 ln aiw HBO;go_wp2_with fail
 go_ret;unfold xp;rw[<-Vp.o, <-rO.o];exact⟨rfl,_,_,aiy.o,aoi.o,Vx⟩
theorem OwnRows.G2{xs:List (List Value)}(h:OwnRows b e k w v xs){g:Nat}(hg:own v g):∃c,w.heap[g]?=some (.cells c e (0,0)):=by
 obtain⟨cap,cur,_,_,h2,_⟩:=h.open hg;exact⟨cur,h2⟩
structure eO (base:Nat) (w:World) (b:Nat) (v:Value) (ps:List ef):Prop where
 low:base<=b
 eI:w.heap[b]?=some (.cells #[v] 92 (0,0))
 rows:OwnRows base 155 12 w v (ps.map ef.cells)
def iA(b:Nat)(v:Value):Nat->Prop:=fun k=>k=b\/own v k
def Eo(base:Nat)(w:World)(b:Nat)(v:Value)(ps:List ef)(w':World):Prop :=
 ∃v',eO base w' b v' ps/\Fr (iA b v) w w'/\∀k,iA b v' k->iA b v k\/w.heap.size<=k
section
variable {base : Nat} {w w' : World} {b : Nat} {v : Value} {ps : List ef}
theorem eO.lt(h:eO base w b v ps):b<w.heap.size:=bj h.eI
theorem eO.c0(h:eO base w b v ps):w.cell? ⟨b,0,none⟩=some v:=by simp[World.cell?,h.eI]
theorem eO.free(h:eO base w b v ps)(k:Nat):w.frozen? ⟨b,k,none⟩=false:=by simp[World.frozen?,h.eI]
theorem eO.form(h:eO base w b v ps):∃a c,v=.slice a ps.length c:=by
 obtain⟨a,c,e⟩:=h.rows.form;exact⟨a,c,by rw[e,ai]⟩
theorem eO.Ep(h:eO base w b v ps)(hk:own v k):k<w.heap.size:=h.rows.lt k hk
theorem eO.nb(h:eO base w b v ps):¬own v b:=fun hk=>by
 obtain⟨c,e⟩:=h.rows.G2 hk;rw[h.eI]at e;cases e
theorem eO.jh(h:eO base w b v ps)(hk:iA b v k):k<w.heap.size:=by
 rcases hk with rfl|hk
 ·exact h.lt
 ·exact h.Ep hk
theorem eO.fr(h:eO base w b v ps)(hf:Fr S w w')(hn:∀k,iA b v k->¬S k):eO base w' b v ps :=
 ⟨h.low,hf.keep h.eI (hn b (Or.inl rfl)),h.rows.fr hf (fun k hk=>hn k (Or.inr hk))⟩
theorem eO.dh(h:eO base w b v ps)(hf:Fr aR w w'):eO base w' b v ps:=h.fr hf (fun _ _ h=>h)
end
theorem eO.set{base:Nat}{w:World}{b:Nat}{v0 v:Value}{ps:List ef}(hl:base<=b)(hb:w.heap[b]?=some (.cells #[v0] 92 (0,0)))(hr:OwnRows base 155 12 w v (ps.map ef.cells)) :
  eO base (w.setCell ⟨b,0,none⟩ v) b v ps:=by
 have kJ:Fr (one b) w (w.setCell ⟨b,0,none⟩ v):=(ae (one b) w).setCell (p:=⟨b,0,none⟩) (fun _=>rfl) _;refine⟨hl,b_ hb 0 v,hr.fr kJ ?_⟩;rintro k hk rfl;obtain⟨c,e⟩:=hr.G2 hk;rw[hb]at e;cases e
theorem LA(p q:ef)(w:World):(binOp .eql 155 (.agg p.cells.toArray) (.agg q.cells.toArray)).run prog w=.ok (.bool (p.ll q)) w:=by
 obtain⟨⟨a,b,c⟩,⟨d,e,f⟩,g,i,j,k,l,m⟩:=p;obtain⟨⟨a',b',c'⟩,⟨d',e',f'⟩,g',i',j',k',l',m'⟩:=q;unfold ef.cells;go_simp;simp only[show∀(P:Prop) [Decidable P] (W:World) (b:Bool),(if P then(Result.ok (Value.bool b) W:Result Value)else .ok (.bool false) W)=.ok (.bool (decide P&&b)) W from fun P _ W b=>by by_cases h:P<;>simp[h]]
 congr 2
 rw[fa];simp only[ef.ll,gz.ll,cD,dD,dT,and_assoc,iL]
abbrev oX := @eO.set
abbrev LK:=aj×aj×Value
def Bq(r:LK):List Value:=[.string r.1,.string r.2.1,r.2.2]
theorem VN{r:LK}(h:r.2.2.oneCell'=true):∀u∈Bq r,u.oneCell'=true:=by
 intro u hu;simp only[Bq,bB,cq,dU]at hu;rcases hu with rfl|rfl|rfl
 ·rfl
 ·rfl
 ·exact h
def VO(base:Nat)(w:World)(r:LK)(x:nu):Prop:=r.1=bA x.scheme/\r.2.1=bA x.token/\OwnRows base 171 2 w r.2.2 (x.params.map oy)
def lr(base:Nat)(w:World)(v:Value)(xs:List nu):Prop:=∃rs:List LK,OwnRows base 198 3 w v (rs.map Bq)/\lg (VO base w) rs xs
theorem lr.nil(base:Nat)(w:World):lr base w (.slice none 0 0) []:=⟨[],dv _ _ _ _,.nil⟩
theorem lr.form(h:lr base w v xs):∃a c,v=.slice a xs.length c:=by
 obtain⟨rs,h1,h2⟩:=h;obtain⟨a,c,e⟩:=h1.form;exact⟨a,c,by rw[e,ai,h2.len]⟩
def I2(w:World)(S:Nat->Prop):Prop:=∀k,S k->k<w.heap.size->∃cs t f,w.heap[k]?=some (.cells cs t f)/\t≠171/\t≠198
theorem I2.none(w:World):I2 w aR:=fun _ h=>absurd h id
theorem I2.cur(h:du w c s i):I2 w (one c):=fun k hk _=>by
 obtain rfl:k=c:=hk;exact⟨_,_,_,h,ag,ag⟩
theorem lr.fr(h:lr base w v xs)(hf:Fr S w w')(hS:I2 w S):lr base w' v xs:=by
 obtain⟨rs,h1,h2⟩:=h;have key:∀ {k:Nat} {e:TypeId} {u:Value} {ys:List (List Value)},(e=171\/e=198)->OwnRows base e k w u ys->OwnRows base e k w' u ys:=by
  intro k e u ys he ho;refine ho.fr hf (fun b hb hs=>?_);obtain⟨cur,hc⟩:=ho.BX hb;obtain⟨cs,t,f,Yl,n1,n2⟩:=hS b hs (bj hc);rw[hc]at Yl;cases Yl;rcases he with rfl|rfl
  ·exact n1 rfl
  ·exact n2 rfl
 exact⟨rs,key (Or.inr rfl) h1,h2.mono (fun r x hr=>⟨hr.1,hr.2.1,key (Or.inl rfl) hr.2.2⟩)⟩
def aiP(c b:Nat)(v:Value):Nat->Prop:=fun k=>k=c\/k=b\/v.ownBlock=some k
def tj(base c b i:Nat)(s:aj)(xs:List nu)(v:Value)(w:World)(e:Ending)(w':World):Prop :=
 Fr (aiP c b v) w w'/\match pn xs.length (s.data.toList.drop i)with
  | .error n=>∃p,xS n p e w'
  | .ok q=>e=.returned .nilIface/\∃j v',j<=s.size/\du w' c s j/\s.data.toList.drop j=q.2/\iI w' b c s v'/\lr base w' v' (xs++[q.1])
theorem tj.bad{p:Nat}{e:Ending}(h:pn xs.length (s.data.toList.drop i)=.error n)(hf:Fr (one c) w w')(he:xS n p e w'):tj base c b i s xs v w e w':=by
 refine⟨hf.mono (fun k _ e=>Or.inl e),?_⟩;rw[h];exact⟨p,he⟩
def aeo(c b X i n:Nat)(s:aj)(v:Value)(W:Bs)(w wx:World):Prop :=
 ∃tok ps pv j,j<=s.size/\du wx c s j/\iI wx b c s v/\kM wx X (bA W) (bA tok) pv/\OwnRows w.heap.size 171 2 wx pv (ps.map oy)/\Fr (one c) w wx /\
  pn n (s.data.toList.drop i)=.ok (⟨W,tok,ps⟩,s.data.toList.drop j)
def aiQ(c b X K:Nat)(s:aj)(v:Value)(W:Bs)(w:World)(t:Value)(wr:World):Prop :=
 ∃mb ps pv j,t=.bool mb/\j<=s.size/\du wr c s j/\iI wr b c s v/\kM wr X (bA W) ⟨#[]⟩ pv/\OwnRows w.heap.size 171 2 wr pv (ps.map oy)/\Fr (one c) w wr/\ps.length<=16/\(∀p∈ps,p.1.length<100000) /\
  gU ((s.data.toList.drop K).length+1) [] (s.data.toList.drop K)=(if mb then gU ((s.data.toList.drop j).length+1) ps (s.data.toList.drop j)else .ok (ps,s.data.toList.drop j))
theorem I7(ps:List jy)(r:Bs):gU (r.length+1) ps r=match ld ps r with
  | .error e=>.error e
  | .ok q=>if oa q.2 then(if lL (iG q.2)then gU ((iG q.2).length+1) (ps++[q.1]) (iG q.2)else .ok (ps++[q.1],iG q.2))else .error 3:=by
 rw[gU];cases hp:ld ps r with
 |error e=>rfl
 |ok q =>
  obtain⟨p,r1⟩:=q;simp only;have h1:=t_ hp;have h2:=oL r1;rw[uD r.length _ _ ab]
theorem VP:(prog.info? 198).map (fun i=>(i.zero,i.size,i.bytes))=some (some (.agg #[.string ⟨#[]⟩,.string ⟨#[]⟩,.slice none 0 0]),3,56):=af
theorem OwnRows.Z8{xs:List (List Value)}(h:OwnRows base e k w v xs):v.oneCell'=true:=by
 obtain⟨a,c,e⟩:=h.form;rw[e];rfl
theorem Oe(s:aj)(k:Nat):decide (k<cL dJ s.data.toList k)=pM (s.data.toList.drop k):=by
 rcases eM k s.data.toList.length with h|h
 ·rw[cR h];show _=dJ s.data.toList[k];cases hb:dJ s.data.toList[k]
  ·rw[lJ (fun c hc=>by rw[List.getElem?_eq_getElem h]at hc;cases hc;exact hb)];simp
  ·rw[oJ (List.getElem?_eq_getElem h) hb];have:=lK (p:=dJ) (l:=s.data.toList) (i:=k+1);exact bf ab
 ·rw[cO h,lJ (fun c hc=>by rw[List.getElem?_eq_none h]at hc;cases hc)];simp[pM]
theorem VQ(s:aj)(k:Nat):oa (s.data.toList.drop k)=oa (s.data.toList.drop (eI s k)):=by rw[oP,Ic]
theorem Z9(s:aj)(k:Nat):eI s (eI s k)=eI s k:=Ga _ _ _
theorem Z_(base b c i:Nat)(s:aj)(xs:List nu)(v:Value)(w:World)(hr:iI w b c s v)(h:du w c s i)(hv:lr base w v xs)(hb:base<=w.heap.size)
  (hs:s.size<100000)(hi:i<=s.size)(hl:xs.length<=8) :
  Calls prog 113 #[.pointer (some ⟨b,0,none⟩)] w (tj base c b i s xs v w):=by
 have hm:s.size<=maxLen:=fq;have hbc:=hr.ne h;have q0:=hr.cell0;have hw:=Iv hi;have HWD:=O (wE s i);have Re:=(show pn xs.length (s.data.toList.drop i)=if(h_ (s.data.toList.drop i)).isEmpty then .error 3
  else if xs.length=8 then .error 4
  else if oa (iy (s.data.toList.drop i))then .ok (⟨h_ (s.data.toList.drop i),[],[]⟩,eV (iy (s.data.toList.drop i)))
  else if !pM (iy (s.data.toList.drop i))then .error 3
  else match singleR (eV (iy (s.data.toList.drop i)))with
   |some q=>.ok (⟨h_ (s.data.toList.drop i),q.1,[]⟩,q.2)
   |none=>match gU ((eV (iy (s.data.toList.drop i))).length+1) [] (eV (iy (s.data.toList.drop i)))with
    | .error e=>.error e
    | .ok q=>.ok (⟨h_ (s.data.toList.drop i),[],q.1⟩,q.2)from rfl)
 rw[<-wE]at Re;have Fh:(h_ (s.data.toList.drop i)).length<=s.size:=by
  have:=ry (s.data.toList.drop i);simp at this;omega
 have JP:=O Re;clear Re;go_enter func113,ntmps113;go_wp2_with fail
 refine(AW c s i w h).mono ?_;rintro e w0⟨rfl,rfl⟩;go_wp2_with fail
 refine(vY c s i w h hm hi).mono ?_;rintro e w1⟨rfl,px,df⟩;replace px:du w1 c s (JN s i):=px;rw[show s.extract i (cL fY s.data.toList i)=bA (h_ (s.data.toList.drop i))from zC s i];generalize h_ (s.data.toList.drop i)=W at *
 generalize JN s i=K1 at *
 obtain⟨wx,Oc⟩:∃wx,wx=w1.alloc (.cells #[.string (bA W),.string ⟨#[]⟩,.slice none 0 0] 198):=⟨_,rfl⟩;have dy:Fr aR w1 wx:=by rw[Oc];exact(ae _ _).alloc _
 have hX:kM wx w1.heap.size (bA W) ⟨#[]⟩ (.slice none 0 0):=by rw[Oc];exact aB _ _
 have hXw:w.heap.size<=w1.heap.size:=df.size;have yY:=hr.one h df;have ox:=yY.fr dy id;have sN:=px.fr dy id;have fO:=O (df.trans dy.nj);have TN:=O Oc;have HXS:=O (show wx.heap.size=w1.heap.size+1 by rw[Oc];simp);have q1a:∀o:Obj,(w1.alloc o).cell? ⟨b,0,none⟩=some (.pointer (some ⟨c,0,none⟩)):=fun o=>(yY.fr ((ae aR w1).alloc o) id).cell0
 have q1b:∀o:Obj,(w1.alloc o).cell? ⟨b,2,none⟩=some v:=fun o=>(yY.fr ((ae aR w1).alloc o) id).lV;obtain⟨av,cv,hvv⟩:=hv.form;rw[hvv]at q1b;generalize hXe:w1.heap.size=X at *
 clear Oc q0 df;cases P3:W.isEmpty
 case true =>
  have DB:(bA W).toList=[]:=by rw[mS];exact gD.1 P3
  have AO:((bA W).toList== [])=true:=dT.2 DB;have HE:=O (show pn xs.length (s.data.toList.drop i)=.error 3 by rw[JP.o,az P3]);go_wp2_with fail
  rw[<-TN.o];refine(ub b c K1 3 s v wx ox sN).mono ?_;rintro e w4⟨⟨g,rfl,hg⟩,kK⟩;go_wp2;go_ret;exact tj.bad HE.o (fO.o.trans kK.nj) ⟨g,rfl,hg⟩
 case false =>
  have DB:¬(bA W).toList=[]:=by rw[mS];intro e;rw[e]at P3;cases P3
  have AO:((bA W).toList== [])=false:=aN.2 DB;by_cases h8:xs.length=8
  ·have h8':((xs.length:Int)==8)=true:=by rw[h8];rfl
   have HE:=O (show pn xs.length (s.data.toList.drop i)=.error 4 by rw[JP.o,aq (by rw[P3];simp),az h8]);clear h8;go_wp2;go_ret;rw[<-TN.o];exact tj.bad HE.o (fO.o.alloc _) ⟨X+1,rfl,by rw[<-HXS.o];exact aB wx _⟩
  ·have h8':((xs.length:Int)==8)=false:=aN.2 ab;have RW:=O (show pn xs.length (s.data.toList.drop i)=if oa (s.data.toList.drop K1)then .ok (⟨W,[],[]⟩,eV (s.data.toList.drop K1))
    else if !pM (s.data.toList.drop K1)then .error 3
    else match singleR (eV (s.data.toList.drop K1))with
     |some q=>.ok (⟨W,q.1,[]⟩,q.2)
     |none=>match gU ((eV (s.data.toList.drop K1)).length+1) [] (eV (s.data.toList.drop K1))with
      | .error e=>.error e
      | .ok q=>.ok (⟨W,[],q.1⟩,q.2)by rw[JP.o,aq (by rw[P3];simp),aq h8])
   clear JP P3;go_wp2_with fail
   rw[<-TN.o];refine(mB c s K1 wx sN hm hw).mono ?_;rintro e w3⟨rfl,uB,iv⟩;replace uB:du w3 c s (eI s K1):=uB;have HBH:=O (show decide (K1<cL dJ s.data.toList K1)=pM (s.data.toList.drop K1)from Oe s K1);rw[HBH.o];have su:=yt hw;have CT:=O (oP s K1);rw[<-oP,VQ]at RW;have qe:=O (Z9 s K1);generalize eI s K1=K2 at *
   have rJ:=ox.one sN iv;have Ev:=hX.fr iv (fun e=>hX.ne sN e);have ic:=O (fO.o.trans iv);clear yY ox px sN hX dy iv q1a q1b DB AO h8' HBH CT
   go_upto_block 0 with fail
   go_cut [5,6,7,8]from 39 to 69 (fun _ _ _ _ wz=>aeo c b X i xs.length s v W w wz)
   case first =>
    have hXX:=Ev.ne uB;have hXb:=Ev.neR rJ;go_wp2_with fail
    refine(Dy b c K2 s v w3 rJ uB hm su).mono ?_;rintro e w4⟨rfl,uy,kK⟩;rw[qe.o]at uy;have vX:=rJ.one uB kK;have Z':=Ev.fr kK hXX;have jV:=O (ic.o.trans kK);clear rJ Ev uB kK;cases hov:oa (s.data.toList.drop K2)
    case true =>
     have HE:=O (show pn xs.length (s.data.toList.drop i)=.ok (⟨W,[],[]⟩,s.data.toList.drop K2)by rw[RW.o,az hov]);go_wp2_with fail
     go_meet
     exact⟨[],[],_,K2,su,uy,vX,Z',dv _ _ _ _,jV.o,HE.o⟩
    case false =>
     cases hbh:pM (s.data.toList.drop K1)
     case false =>
      have HE:=O (show pn xs.length (s.data.toList.drop i)=.error 3 by rw[RW.o,aq (by rw[hov];simp),az (by rw[hbh];rfl)]);go_wp2_with fail
      refine(ub b c K2 3 s v w4 vX uy).mono ?_;rintro e w5⟨⟨g,rfl,hg⟩,lG⟩;go_wp2;go_ret;exact tj.bad HE.o (jV.o.trans lG.nj) ⟨g,rfl,hg⟩
     case true =>
      have aeq:=O (show pn xs.length (s.data.toList.drop i)=match singleR (s.data.toList.drop K2)with
       |some q=>.ok (⟨W,q.1,[]⟩,q.2)
       |none=>match gU ((s.data.toList.drop K2).length+1) [] (s.data.toList.drop K2)with
        | .error e=>.error e
        | .ok q=>.ok (⟨W,[],q.1⟩,q.2)by rw[RW.o,aq (by rw[hov];simp),aq (by rw[hbh];simp)])
      clear RW;go_wp2_with fail
      refine(Nx b c K2 s v w4 vX uy hs su).mono ?_;intro e w5 qz;obtain⟨lG,pk⟩:=qz;have BZ:=vX.one uy lG;have hX5:=Z'.fr lG hXX;have tU:=O (jV.o.trans lG);have x1:=hX5.hZ;have xf1:=hX5.free 1;have HS:=O (show∀u:Value,Fr (one X) w5 (w5.setCell ⟨X,1,none⟩ u)from fun u=>(ae (one X) w5).setCell (p:=⟨X,1,none⟩) (fun _=>rfl) u)
      have yX:=O (show∀u:Value,Fr (one c) w (w5.setCell ⟨X,1,none⟩ u)from fun u=>tU.o.step (HS.o u) (fun k hk e=>by have e':k=X:=e;omega));clear lG;cases hsr:singleR (s.data.toList.drop K2)with
      |some q =>
       obtain⟨tk,z⟩:=q;rw[hsr]at pk;obtain⟨rfl,j,hj,uz,hd5⟩:=pk;have HE:=O (show pn xs.length (s.data.toList.drop i)=.ok (⟨W,tk,[]⟩,s.data.toList.drop j)by rw[aeq.o,hsr,hd5]);have hX6:kM (w5.setCell ⟨X,1,none⟩ (.string (bA tk))) X (bA W) (bA tk) (.slice none 0 0):=b_ hX5 1 _;have JO:=BZ.fr (HS.o (.string (bA tk))) (fun e=>hXb (show b=X from e).symm)
       have M0:=uz.fr (HS.o (.string (bA tk))) (fun e=>hXX (show c=X from e).symm);clear hd5;go_wp2_with fail
       go_meet
       exact⟨tk,[],_,j,hj,M0,JO,hX6,dv _ _ _ _,yX.o _,HE.o⟩
      |none =>
       rw[hsr]at pk;obtain⟨rfl,uz⟩:=pk;have HPN:=O (show pn xs.length (s.data.toList.drop i)=match gU ((s.data.toList.drop K2).length+1) [] (s.data.toList.drop K2)with
        | .error e=>.error e
        | .ok q=>.ok (⟨W,[],q.1⟩,q.2)by rw[aeq.o,hsr])
       have hX6:kM (w5.setCell ⟨X,1,none⟩ (.string ⟨#[]⟩)) X (bA W) ⟨#[]⟩ (.slice none 0 0):=b_ hX5 1 _;have JO:=BZ.fr (HS.o (.string ⟨#[]⟩)) (fun e=>hXb (show b=X from e).symm);have M0:=uz.fr (HS.o (.string ⟨#[]⟩)) (fun e=>hXX (show c=X from e).symm);have Gt:=O (yX.o (.string ⟨#[]⟩));clear aeq;go_wp2_with fail
       clear x1 xf1;generalize w5.setCell ⟨X,1,none⟩ (.string ⟨#[]⟩)=w7 at *
       go_loopw[7] (aiQ c b X K2 s v W w) (fun t wr=>match t with| .bool true=>s.size-pG wr c+1|_=>0)
       case atStart=>exact⟨true,[],_,K2,rfl,su,M0,JO,hX6,dv _ _ _ _,Gt.o,aQ,aQ,rfl⟩
       case round =>
        obtain⟨mb,ps,pv,j,rfl,hj,hc8,UF,hX8,TC,cK,aox,hpz,hpn⟩:=hrel;have HPS:=O hpn;clear hpn;cases mb
        case false =>
         have HE:=O (show pn xs.length (s.data.toList.drop i)=.ok (⟨W,[],ps⟩,s.data.toList.drop j)by rw[HPN.o,HPS.o];rfl);go_wp2_with fail
         go_meet
         exact⟨[],ps,pv,j,hj,hc8,UF,hX8,TC,cK,HE.o⟩
        case true =>
         have lH:=O (I7 ps (s.data.toList.drop j));have qh:=O hc8.pos;have hwr:w.heap.size<=wr.heap.size:=cK.size;go_wp2_with fail
         refine(Rc w.heap.size b c X j s v ps (bA W) ⟨#[]⟩ pv wr UF hc8 hX8 TC hwr hs hj aox hpz).mono ?_;intro e w9 hpp;obtain⟨ZD,hpm⟩:=hpp;have hXc:=hX8.ne hc8;have Ym:=hX8.neR UF;have hbo:pv.ownBlock≠some b:=TC.not UF ag;have hr9:=UF.fr ZD (fun hh=>by
          rcases hh with hh|hh|hh
          ·exact hbc hh
          ·exact Ym hh.symm
          ·exact hbo hh)
         have X9:=O (show Fr (one c) w w9 from cK.step ZD (fun k hk hh=>by
          rcases hh with hh|hh|hh
          ·exact hh
          ·omega
          ·have:=TC.block k hh;omega))
         clear ZD cK TC hX8 UF;cases y_:ld ps (s.data.toList.drop j)with
         |error n =>
          rw[y_]at hpm;obtain⟨pl,g,rfl,hg⟩:=hpm;have HE:=O (show pn xs.length (s.data.toList.drop i)=.error n by
           rw[HPN.o,HPS.o,az True.intro,lH.o,y_])
          clear y_;go_wp2_with fail
          go_ret;exact tj.bad HE.o X9.o ⟨g,rfl,hg⟩
         |ok q =>
          obtain⟨p,z⟩:=q;rw[y_]at hpm;obtain⟨rfl,j1,yZ,hj1,hc9,hd9,hX9,Zi⟩:=hpm;simp only at hd9 Zi;have hle:=t_ y_;rw[y_]at lH;have arU:=(Gp y_).2.2;have CA:(s.data.toList.drop j).length<=s.size:=aQ;have hjj:j<j1:=by
           have e1:z.length=s.size-j1:=by rw[<-hd9];simp
           have e2:(s.data.toList.drop j).length=s.size-j:=aQ;omega
          have YX:=O (show p.1.length<100000 from ab);clear y_ hle CA;go_wp2_with fail
          refine(Dy b c j1 s v w9 hr9 hc9 hm hj1).mono ?_;rintro e w10⟨rfl,VR,NA⟩;have aab:=hr9.one hc9 NA;have aiS:=hX9.fr NA hXc;have aet:=Zi.fr NA (fun k hk e=>by
           obtain rfl:k=c:=e;exact Zi.not hc9 ag hk)
          have aiT:=O (X9.o.trans NA);have hbj:=yt (s:=s) hj1;have hbd:=O (oP s j1);rw[hd9]at hbd ⊢;clear NA hr9 hX9 Zi hc9;cases hov:oa z
          case false =>
           have HE:=O (show pn xs.length (s.data.toList.drop i)=.error 3 by
            rw[HPN.o,HPS.o,az True.intro,lH.o];simp only[hov,cG,eU])
           go_wp2_with fail
           refine(ub b c _ 3 s v w10 aab VR).mono ?_;rintro e w11⟨⟨g,rfl,hg⟩,Of⟩;go_wp2;go_ret;exact tj.bad HE.o (aiT.o.trans Of.nj) ⟨g,rfl,hg⟩
          case true =>
           go_wp2_with fail
           refine(Dx b c _ s v w10 aab VR hm hbj).mono ?_;rintro e w11⟨rfl,aac,Of⟩;have HGD:=O (show s.data.toList.drop (cL ow s.data.toList (eI s j1))=iG z by
            rw[kh,hbd.o];exact uE z)
           have NY:cL ow s.data.toList (eI s j1)<=s.size:=by simpa using ia (p:=ow) (l:=s.data.toList) (i:=eI s j1) (by simpa using hbj)
           have Ya:j1<=cL ow s.data.toList (eI s j1):=aD (lK (p:=dJ) (l:=s.data.toList) (i:=j1)) lK;generalize cL ow s.data.toList (eI s j1)=j2 at *
           have aev:=aab.one VR Of;have aiU:=aiS.fr Of hXc;have aew:=aet.fr Of (fun k hk e=>by
            obtain rfl:k=c:=e;exact aet.not VR ag hk)
           have aoz:=O (aiT.o.trans Of);clear Of aab aiS aet VR;go_wp2_with fail
           refine(Nw b c j2 s v w11 aev aac hm NY).mono ?_;rintro e w12⟨rfl,aex,zy⟩;rw[HGD.o];have aiV:=aev.one aac zy;have aiW:=aiU.fr zy hXc;have aiX:=aew.fr zy (fun k hk e=>by
            obtain rfl:k=c:=e;exact aew.not aac ag hk)
           have aiY:=O (aoz.o.trans zy);have Cx:=O (show gU ((s.data.toList.drop K2).length+1) [] (s.data.toList.drop K2)=(if lL (iG z)then gU ((s.data.toList.drop j2).length+1) (ps++[p]) (s.data.toList.drop j2)else .ok (ps++[p],s.data.toList.drop j2))by
            rw[HPS.o,az True.intro,lH.o];simp only[hov,eb];rw[HGD.o])
           have aiZ:(ps++[p]).length<=16:=bG;have ai0:∀q∈ps++[p],q.1.length<100000:=by
            intro q hq;rcases bK.1 hq with g|g
            ·exact hpz q g
            ·simp at g;subst g;exact YX.o
           clear zy aev aiU aew aac hov hd9;cases Ye:lL (iG z)
           ·rw[Ye]at Cx;go_wp2;go_roundw
            case rel=>exact⟨false,ps++[p],yZ,j2,rfl,NY,aex,aiV,aiW,aiX,aiY.o,aiZ,ai0,Cx.o⟩
            case measure=>simp
           ·rw[Ye]at Cx;go_wp2;go_roundw
            case rel=>exact⟨true,ps++[p],yZ,j2,rfl,NY,aex,aiV,aiW,aiX,aiY.o,aiZ,ai0,Cx.o⟩
            case measure=>simp only;rw[qh.o,aex.pos];omega
   case rest =>
   obtain⟨tok,ps,pv,j,hj,uy,vX,Z',Ty,kK,hE⟩:=hcut;have HE:=O hE;clear hE RW uB rJ Ev;have hXc:=Z'.ne uy;have hXb:=Z'.neR vX;have PJ:=hv.fr kK (I2.cur h);obtain⟨rs,ho,xW⟩:=PJ;have vI:=xW.len;subst hvv;have CU:(Value.slice av xs.length cv).ownBlock≠some c:=ho.not uy ag;have hob:(Value.slice av xs.length cv).ownBlock≠some b:=ho.not vX ag;have hpc:pv.ownBlock≠some c:=Ty.not uy ag
   have Yf:pv.ownBlock≠some b:=Ty.not vX ag;have cP:wc.ownsRow base 198 3 (.slice av xs.length cv) xs.length (rs.map Bq).flatten:=by
    have hh:=ho.2;rw[ai,vI]at hh;exact hh
   have vt:c<wc.heap.size:=uy.lt;have hbl:b<wc.heap.size:=vX.lt;have hXl:X<wc.heap.size:=Z'.lt;have iD:base<=wc.heap.size:=aD hb kK.size;have r2:=vX.lV;have rf2:=vX.free 2;have x0:=Z'.cell0;have x1:=Z'.hZ;have x2:=Z'.lV;have hpo:pv.oneCell'=true:=Ty.Z8;obtain⟨i0,qD,pq,kZ,lq⟩:=info_parts VP;have xE:=O (VN (r:=(bA W,bA tok,pv)) hpo);have HO:=O ho;have HB:=O xW;have HP4:=O Ty;have h8l:xs.length<8:=ab
   clear hv ho xW Ty;go_wp2_with fail
   go_region_law ((with_reducible refine mR ⟨some 77,_,_,_,_,_⟩ ?_)
                  refine step_append_lies _ bC _ _ _ bC base 198 i0 _ 3 56 underlying123 qD pq kZ lq rfl ab (.slice av xs.length cv) xs.length _ bC (by repeat(first|exact cP|apply World.ownsRow.alloc|apply World.ownsRow.drew)) ⟨wc.heap.size,0,none⟩ 1 1 (Bq (bA W,bA tok,pv)) bC bC (kQ wc (Bq (bA W,bA tok,pv)) _) xE.o ab fq ab bG (wc.heap.size+1) aQ ?_
                  intro gg cap w5 wG jC UI adv
                  have rf:Fr (fun k=>(Value.slice av xs.length cv).ownBlock=some k) wc w5:=fk (by repeat(first|exact ae _ _|apply aA|apply bz)) jC (fun _ hk _=>hk)
                  have k4:w5.cell? ⟨b,2,none⟩=some (.slice av xs.length cv):=(rf.cell (p:=⟨b,2,none⟩) hbl hob).trans r2
                  have e4:w5.frozen? ⟨b,2,none⟩=false:=(rf.frozen (p:=⟨b,2,none⟩) hbl hob).trans rf2)
   all_goals
    have BZ:iI w5 b c s (.slice av xs.length cv):=vX.fr rf hob;have uz:du w5 c s j:=uy.fr rf CU;have ks:Fr (one b) w5 (w5.setCell ⟨b,2,none⟩ (.slice (some ⟨gg,0,none⟩) (xs.length+1) cap)):=(ae (one b) w5).setCell (p:=⟨b,2,none⟩) (fun _=>rfl) _;have JO:iI (w5.setCell ⟨b,2,none⟩ (.slice (some ⟨gg,0,none⟩) (xs.length+1) cap)) b c s (.slice (some ⟨gg,0,none⟩) (xs.length+1) cap):=b_ BZ 2 _
    have M0:=uz.fr ks (fun e=>hbc (show c=b from e).symm);have hgb:gg≠b:=by
     rintro rfl;rcases UI with e|e
     ·exact hob e
     ·omega
    have hel:∀(u:Value) (qs:List jy),OwnRows base 171 2 wc u (qs.map oy)->OwnRows base 171 2 (w5.setCell ⟨b,2,none⟩ (.slice (some ⟨gg,0,none⟩) (xs.length+1) cap)) u (qs.map oy):=by
     intro u qs hu;have h1:OwnRows base 171 2 w5 u (qs.map oy):=hu.fr rf (fun k hk su=>by
      obtain⟨cur,hcu⟩:=hu.BX hk;obtain⟨avw,ai1⟩:=HO.o.BX su;rw[hcu]at ai1;simp at ai1)
     exact h1.fr ks (fun k hk e=>by
      obtain rfl:k=b:=e;exact h1.not BZ ag hk)
    have MZ:OwnRows base 198 3 w5 (.slice (some ⟨gg,0,none⟩) (xs.length+1) cap) ((rs++[(bA W,bA tok,pv)]).map Bq):=by
     refine⟨?_,?_⟩
     ·intro y hy;rw[bH]at hy;rcases bK.1 hy with g|g
      ·exact HO.o.1 y g
      ·simp at g;subst g;exact⟨rfl,xE.o⟩
     ·have e1:((rs++[(bA W,bA tok,pv)]).map Bq).length=xs.length+1:=by simp[vI]
      have e2:((rs++[(bA W,bA tok,pv)]).map Bq).flatten=(rs.map Bq).flatten++Bq (bA W,bA tok,pv):=aQ;rw[e1,e2];exact wG
    have zF:=MZ.fr ks (fun k hk e=>hgb (by
     simp only[Value.ownBlock,en]at hk;rw[hk];exact e))
    have hcs:lr base (w5.setCell ⟨b,2,none⟩ (.slice (some ⟨gg,0,none⟩) (xs.length+1) cap)) (.slice (some ⟨gg,0,none⟩) (xs.length+1) cap) (xs++[⟨W,tok,ps⟩]) :=
     ⟨_,zF,(HB.o.mono (fun r x hr=>⟨hr.1,hr.2.1,hel _ _ hr.2.2⟩)).app (.cons ⟨rfl,rfl,hel _ _ (HP4.o.up hb)⟩ .nil)⟩
    have NB:=O (show Fr (aiP c b (.slice av xs.length cv)) w (w5.setCell ⟨b,2,none⟩ (.slice (some ⟨gg,0,none⟩) (xs.length+1) cap))from
     ((kK.mono (fun k _ e=>Or.inl e)).trans (rf.mono (fun k _ e=>Or.inr (Or.inr e)))).trans (ks.mono (fun k _ e=>Or.inr (Or.inl e))))
    clear k4 e4 jC wG cP rf hel;go_wp2;go_ret;refine⟨NB.o,?_⟩;rw[HE.o];exact⟨rfl,j,_,hj,M0,rfl,JO,hcs⟩
def rZ(part:Int)(method:aj)(hs:List gZ):Bool:=decide (0<=part)&&(decide (part<4)&&(AX method.data.toList&&(decide (hs.length<=40)&&hs.all fun p=>AX p.1.data.toList)))
def ai6(hs:List gZ)(w1:World)(i:Value)(wr:World):Prop :=
 ∃k:Nat,k<=hs.length/\i=.int .i64 k/\(hs.take k).all (fun p=>AX p.1.data.toList)=true/\Fr aR w1 wr
theorem Oj(r:gq Value)(hs:List gZ)(w:World)(hr:oO w r.eo hs)(hz:G0 r hs) :
  Calls prog 45 #[.agg r.cells.toArray] w fun e w'=>e=.returned (.bool (rZ r.part r.method hs))/\Fr aR w w':=by
 have gJ:=O (show rZ r.part r.method hs=(decide (0<=r.part)&&(decide (r.part<4)&&(AX r.method.data.toList&&(decide (hs.length<=40)&&hs.all fun p=>AX p.1.data.toList))))from rfl);generalize rZ r.part r.method hs=res at gJ ⊢;obtain⟨wb,j_⟩:∃wb,wb=w.alloc (.cells r.cells.toArray 37):=⟨_,rfl⟩;have ks:Fr aR w wb:=by rw[j_];exact(ae aR w).alloc _
 have mf:wb.heap[w.heap.size]?=some (.cells r.cells.toArray 37 (0,0)):=by rw[j_];exact aB _ _
 obtain⟨ah,ch,gV⟩:=dQ hr;rw[ai]at gV;have uS:r.cells=[.int .i64 r.part,.bool r.dm.aF,.string r.dm.host,.int .i64 r.dm.port,.bool r.o.aF,.string r.o.host,.int .i64 r.o.port,.string r.path,.string r.query,.string r.method,.slice ah hs.length ch,.bool r.fU,.string r.body]:=by unfold gq.cells;rw[gV]
 have c0:wb.cell? ⟨w.heap.size,0,none⟩=some (.int .i64 r.part):=by simp only[World.cell?,mf];rw[uS];rfl
 have c9:wb.cell? ⟨w.heap.size,9,none⟩=some (.string r.method):=by simp only[World.cell?,mf];rw[uS];rfl
 have G1:wb.cell? ⟨w.heap.size,10,none⟩=some (.slice ah hs.length ch):=by simp only[World.cell?,mf];rw[uS];rfl
 have hh:=bg hr ks;rw[gV]at hh;obtain⟨kZ,lq,UB⟩:=hz;have hlen:(hs.length:Int)<100000:=ab;have IS:=O (show∀U,Calls prog 91 #[.string r.method] U fun e w'=>e=.returned (.bool (AX r.method.data.toList))/\U=w' from fun U=>Db r.method U ab);have HH:=O hh;have HZ:=O UB;have mr:=O ks;rw[uS]at j_ ⊢;have qY:=O j_;rw[j_]at c0 c9 G1;clear hr ks mf gV uS hh UB j_;by_cases h0:r.part<0
 ·have HR:=O (show res=false by rw[gJ.o,bh ab];rfl);clear gJ;go_enter func45,ntmps45;go_wp2;go_ret;exact⟨by rw[HR.o];rfl,by rw[<-qY.o];exact mr.o⟩
 by_cases h4:r.part>=4
 ·have HR:=O (show res=false by rw[gJ.o,bh (show¬r.part<4 from ab),kB,Bool.and_false]);clear gJ;go_enter func45,ntmps45;go_wp2;go_ret;exact⟨by rw[HR.o];rfl,by rw[<-qY.o];exact mr.o⟩
 have G_:=O (show res=(AX r.method.data.toList&&(decide (hs.length<=40)&&hs.all fun p=>AX p.1.data.toList))by rw[gJ.o,bf (show 0<=r.part from ab),bf (show r.part<4 from ab)];rfl);clear gJ;go_enter func45,ntmps45;go_wp2_with fail
 refine(IS.o _).mono ?_;rintro e w2⟨rfl,rfl⟩;cases him:AX r.method.data.toList
 ·have HR:=O (show res=false by rw[G_.o,him];rfl);clear G_;go_wp2;go_ret;exact⟨by rw[HR.o];rfl,by rw[<-qY.o];exact mr.o⟩
 by_cases H':(hs.length:Int)>40
 ·have HR:=O (show res=false by rw[G_.o,him,bh (show¬hs.length<=40 from ab)];rfl);clear G_;go_wp2;go_ret;exact⟨by rw[HR.o];rfl,by rw[<-qY.o];exact mr.o⟩
 have Ob:=O (show res=hs.all (fun p=>AX p.1.data.toList)by rw[G_.o,him,bf (show hs.length<=40 from ab)];rfl);clear G_ him kZ lq h0 h4 hlen;go_wp2;rw[<-qY.o];go_loopw[28] (ai6 hs wb) (fun i _=>hs.length-(intOf i).toNat)
 case atStart=>exact⟨0,aI _,rfl,rfl,ae _ _⟩
 case round =>
  obtain⟨k,hk,rfl,iB,cK⟩:=hrel;have A':=O iB;clear iB;by_cases eX:k<hs.length
  ·have py:(k:Int)<(hs.length:Int):=ab;rcases(bg HH.o cK).2 with ⟨_,_,_,e,_⟩|⟨bk,o,c,hf,h1,h2,h3,h4c⟩
   ·have e2:=ar List.length e;rw[ai]at e2;have e3:hs.length=0:=e2;omega
   ·rw[ai]at hf h1;cases hf;unfold maxLen at h2;have dN:=O (List.getElem?_eq_getElem eX);have hc:=h4c k _ (by rw[List.getElem?_map,dN.o];rfl);have hd0:=hc 0 _ rfl;have zj:=hc 1 _ rfl;simp only[Nat.add_zero]at hd0;have UB:(hs[k]).1.size<100000:=(HZ.o _ (bL eX)).1;generalize hs[k]=x at dN hd0 zj UB
    have IS2:=O (show∀U,Calls prog 91 #[.string x.1] U fun e w'=>e=.returned (.bool (AX x.1.data.toList))/\U=w' from fun U=>Db x.1 U ab);have CZ:=O (cK.alloc (.cells #[.string x.1,.string x.2] 171));clear h4c hc;go_wp2_with fail
    refine(IS2.o _).mono ?_;rintro e w3⟨rfl,rfl⟩;cases hx:AX x.1.data.toList
    ·have HR:=O (show res=false by rw[Ob.o];exact yK dN.o hx);clear hx;go_wp2;go_ret;exact⟨by rw[HR.o];rfl,mr.o.trans CZ.o⟩
    ·have hn:=O (uR dN.o A'.o hx);clear hx;go_wp2;go_roundw
     case rel=>exact⟨k+1,ab,a_,hn.o,CZ.o⟩
     case measure=>simp[intOf];omega
  ·have py:¬(k:Int)<(hs.length:Int):=ab;have HR:=O (show res=true by rw[Ob.o];have h:=A'.o;rwa [aC ab]at h);go_wp2;go_ret;exact⟨by rw[HR.o];rfl,mr.o.trans cK⟩
theorem Sd(p q:ef)(w:World):(binOp .eql 155 (.agg p.cells.toArray) (.agg q.cells.toArray)).run prog w=.ok (.bool (p.ll q)) w:=by
 obtain⟨⟨a,b,c⟩,⟨d,e,f⟩,g,i,j,k,l,m⟩:=p;obtain⟨⟨a',b',c'⟩,⟨d',e',f'⟩,g',i',j',k',l',m'⟩:=q;unfold ef.cells;go_simp;simp only[show∀(P:Prop) [Decidable P] (W:World) (b:Bool),(if P then(Result.ok (Value.bool b) W:Result Value)else .ok (.bool false) W)=.ok (.bool (decide P&&b)) W from fun P _ W b=>by by_cases h:P<;>simp[h]]
 congr 2
 rw[fa];simp only[ef.ll,gz.ll,cD,dD,dT,and_assoc,iL]
def uX(w:World)(b o:Nat)(p:ef):Prop :=
 w.cell? ⟨b,o,none⟩=some (.bool p.dm.aF)/\w.cell? ⟨b,o+1,none⟩=some (.string p.dm.host)/\w.cell? ⟨b,o+2,none⟩=some (.int .i64 p.dm.port)/\w.cell? ⟨b,o+3,none⟩=some (.bool p.o.aF)/\w.cell? ⟨b,o+4,none⟩=some (.string p.o.host)/\w.cell? ⟨b,o+5,none⟩=some (.int .i64 p.o.port)/\w.cell? ⟨b,o+6,none⟩=some (.string p.path)/\w.cell? ⟨b,o+7,none⟩=some (.string p.query)/\w.cell? ⟨b,o+8,none⟩=some (.bool p.fU)/\w.cell? ⟨b,o+9,none⟩=some (.string p.method)/\w.cell? ⟨b,o+10,none⟩=some (.string p.head)/\w.cell? ⟨b,o+11,none⟩=some (.int .i64 p.pX)
theorem uX.of{o:Nat}(h:∀(i:Nat) u,p.cells[i]?=some u->w.cell? ⟨b,o+i,none⟩=some u):uX w b o p :=
 ⟨h 0 _ rfl,h 1 _ rfl,h 2 _ rfl,h 3 _ rfl,h 4 _ rfl,h 5 _ rfl,h 6 _ rfl,h 7 _ rfl,h 8 _ rfl,h 9 _ rfl,h 10 _ rfl,h 11 _ rfl⟩
theorem uX.eI(h:w.heap[b]?=some (.cells p.cells.toArray 155 (0,0))):uX w b 0 p :=
 uX.of fun i u hu=>by simp only[World.cell?,h];simpa using hu
theorem qQ.lie{a:Option Addr}{ps:List ef}(h:qQ w (.slice a n c) ps)(hne:ps≠ []) :
  ∃bk of,a=some ⟨bk,of,none⟩/\n=ps.length/\n<=c/\n<=maxLen/\bk<w.heap.size/\∀(j:Nat) q,ps[j]?=some q->uX w bk (of+j*12) q:=by
 rcases h.2 with ⟨_,_,_,e,_⟩|⟨bk,of,c',hf,g1,g2,g3,g4⟩
 ·exact absurd (by simpa using e) hne
 ·cases hf;rw[ai]at g1;exact⟨bk,of,rfl,aQ,by simpa using g1,by rw[ai];have h1:ps.length<=c:=g1;exact aD h1 g2,g3,fun j q hq=>uX.of (g4 j q.cells (by rw[List.getElem?_map,hq];rfl))⟩
def ai'(w:World)(n:Nat)(f:Nat->Bool)(i:Value)(wr:World):Prop:=∃k:Nat,k<=n/\i=.int .i64 k/\f k=true/\Fr aR w wr
theorem V4(v:Value)(ps:List ef)(p:ef)(w:World)(h:qQ w v ps) :
  Calls prog 197 #[v,.agg p.cells.toArray] w fun e w'=>e=.returned (.int .i64 (lW (fun q=>p.ll q) ps 0))/\Fr aR w w':=by
 obtain⟨av,cv,hv⟩:=dQ h;subst hv;rw[ai]at h ⊢;have HQ:=O (Sd p);obtain⟨w1,oB⟩:∃w1,w1=w.alloc (.cells p.cells.toArray 155):=⟨_,rfl⟩;have df:Fr aR w w1:=by rw[oB];exact(ae _ _).alloc _
 have mf:w1.heap[w.heap.size]?=some (.cells p.cells.toArray 155 (0,0)):=by rw[oB];exact aB _ _
 have HP:=O (show∀U,Fr aR w1 U->uX U w.heap.size 0 p from fun U hU=>uX.eI (hU.keep mf id));have HL:=O (show∀U,Fr aR w1 U->qQ U (.slice av ps.length cv) ps from fun U hU=>bg h (df.trans hU));have k_:=O df;have IG:=O oB;clear h df mf;unfold ef.cells at oB HQ ⊢;go_enter func197,ntmps197;go_wp2;rw[<-oB];clear oB
 go_loopw[8] (ai' w1 ps.length (fun k=>!(ps.take k).any (fun q=>p.ll q))) (fun i _=>ps.length-(intOf i).toNat)
 case atStart=>exact⟨0,aI _,rfl,rfl,ae _ _⟩
 case round =>
  obtain⟨k,hk,rfl,hn,cK⟩:=hrel;have HN:=O (show(ps.take k).any (fun q=>p.ll q)=false by simpa using hn);clear hn;by_cases eX:k<ps.length
  ·have py:(k:Int)<(ps.length:Int):=ab;have Om:(0:Int)<=(k:Int):=ab;obtain⟨bk,of,rfl,g1,g2,g3,g4,g5⟩:=qQ.lie (HL.o wr cK) (by intro e;rw[e]at eX;cases eX);unfold maxLen at g3;have dN:=O (List.getElem?_eq_getElem eX);generalize ps[k]=q at dN;obtain⟨c0,c1,c2,c3,c4,c5,c6,c7,c8,c9,G1,TP⟩:=g5 k q dN.o;obtain⟨d0,d1,d2,d3,d4,d5,d6,d7,d8,d9,d10,d11⟩:=HP.o wr cK
   simp only[bw]at d0 d1 d2 d3 d4 d5 d6 d7 d8 d9 d10 d11;have heq:=HQ.o q;unfold ef.cells at heq;have hfd:=cK.drewN;clear g1 g5;cases he:p.ll q
   ·have qi:=O (any_take_succ dN.o HN.o he);rw[he]at heq;clear he;go_wp2;go_quiet (fail);go_wp2;go_roundw
    case rel=>exact⟨k+1,ab,a_,by show(!(ps.take (k+1)).any (fun q=>p.ll q))=true;rw[qi.o];rfl,cK.drewN _⟩
    case measure=>simp[intOf];omega
   ·have fc:=O (oV (i:=0) dN.o he HN.o);rw[he]at heq;clear he;go_wp2;go_quiet (fail);go_wp2;go_ret;rw[fc.o,bw];exact⟨rfl,k_.o.trans (cK.drewN _)⟩
  ·have py:¬(k:Int)<(ps.length:Int):=ab;have fc:=O (show lW (fun q=>p.ll q) ps 0= -1 from ku (by have h:=HN.o;rw[aC ab]at h;exact h));go_wp2;go_ret;rw[fc.o];exact⟨rfl,k_.o.trans cK⟩
theorem LS(v:Value)(ps:List ef)(p:ef)(w:World)(h:qQ w v ps) :
  Calls prog 134 #[v,.agg p.cells.toArray] w fun e w'=>e=.returned (.bool (ps.any (fun q=>p.ll q)))/\Fr aR w w':=by
 have hb:=O (rP (fun q=>p.ll q) ps 0);have df:Fr aR w (w.alloc (.cells p.cells.toArray 155)):=(ae _ _).alloc _;have mf:(w.alloc (.cells p.cells.toArray 155)).heap[w.heap.size]?=some (.cells p.cells.toArray 155 (0,0)):=aB _ _;have HC:=O (V4 v ps p _ (bg h df));obtain⟨av,cv,hv⟩:=dQ h;subst hv;rw[ai]at HC ⊢;have k_:=O df;have G:=O mf;clear h df mf;unfold ef.cells at *
 go_enter func134,ntmps134;go_wp2_with (first|((with_reducible refine cY 6 ?_);refine aH rfl 155 (.tmp 3) rfl w.heap.size rfl _ _ (0,0) _ G.o underlying155 rfl af ?_)|fail)
 refine HC.o.mono ?_;rintro e w2⟨rfl,dy⟩;go_wp2;go_ret;exact⟨fx hb.o,k_.o.trans dy⟩
def Bu(w:World)(b:Nat)(r:gq Value):Prop :=
 w.cell? ⟨b,0,none⟩=some (.int .i64 r.part)/\w.cell? ⟨b,1,none⟩=some (.bool r.dm.aF)/\w.cell? ⟨b,2,none⟩=some (.string r.dm.host)/\w.cell? ⟨b,3,none⟩=some (.int .i64 r.dm.port)/\w.cell? ⟨b,4,none⟩=some (.bool r.o.aF)/\w.cell? ⟨b,5,none⟩=some (.string r.o.host)/\w.cell? ⟨b,6,none⟩=some (.int .i64 r.o.port)/\w.cell? ⟨b,7,none⟩=some (.string r.path)/\w.cell? ⟨b,8,none⟩=some (.string r.query)/\w.cell? ⟨b,9,none⟩=some (.string r.method)/\w.cell? ⟨b,10,none⟩=some r.eo/\w.cell? ⟨b,11,none⟩=some (.bool r.fU)/\w.cell? ⟨b,12,none⟩=some (.string r.body)
theorem Bu.eI{r:gq Value}(h:w.heap[b]?=some (.cells r.cells.toArray 37 (0,0))):Bu w b r:=by
 have hc:∀i u,r.cells[i]?=some u->w.cell? ⟨b,i,none⟩=some u:=fun i u hu=>by simp only[World.cell?,h];simpa using hu
 exact⟨hc 0 _ rfl,hc 1 _ rfl,hc 2 _ rfl,hc 3 _ rfl,hc 4 _ rfl,hc 5 _ rfl,hc 6 _ rfl,hc 7 _ rfl,hc 8 _ rfl,hc 9 _ rfl,hc 10 _ rfl,hc 11 _ rfl,hc 12 _ rfl⟩
theorem SJ(ps:List ef)(p:ef):(qo ps p).length<=ps.length+1:=by
 unfold qo;split
 ·omega
 ·simp
theorem yT:∀(l ps:List ef),(l.foldl qo ps).length<=ps.length+l.length
 |[],ps=>aQ
 |p :: l,ps=>by
  rw[List.foldl_cons];have h1:=yT l (qo ps p);have h2:=SJ ps p;rw[List.length_cons];omega
theorem EN{n:Bs}{l:List Bs}(h:lf ps n=some l):l.length<=40:=by
 unfold lf at h;split at h
 ·cases h
 ·split at h
  ·cases h
  ·cases h;omega
theorem SK{r:ra}{t:Bs}{now:Int}{m:List ef}(h:uI r t ps now=.ok m):m.length<=81:=by
 unfold uI at h;cases e1:lf ps KE with
 |none=>rw[e1]at h;cases h
 |some ms =>
  cases e2:lf ps yr with
  |none=>rw[e1,e2]at h;cases h
  |some hs =>
   rw[e1,e2]at h;simp only at h;split at h
   ·cases h
   ·split at h
    ·cases h
    ·cases h;have h1:=EN e1;have h2:=EN e2;unfold ra.bF;refine aD (yT _ _) ?_;rw[ai];have h3:=yT ((r.methods ms).map fun m=>r.Ds (now+ni ps) m (bA [])) [];rw[ai]at h3;have h4:(r.methods ms).length<=40:=by
      unfold ra.methods;split
      ·simp
      ·rw[ai];exact h1
     simp only[List.length_nil,bw]at h3;omega
def gq.MF{D:Type}(r:gq D):Prop:=r.method.size<=140737488351232/\r.path.size<=140737488351232/\r.query.size<=140737488351232/\r.o.host.size<=140737488351232/\r.dm.host.size<=140737488351232
