/- Lemmas for the law's walk. -/
import Derived.Test.YtjndhcngnghpiaaGreatDoorPo10
set_option maxRecDepth 100000
set_option maxHeartbeats 16000000
set_option linter.unusedSimpArgs false
namespace Go.Proofs.YtjndhcngnghpiaaGreatDoor
open Go.Proofs.Tryz
open Go.RowKit
variable {base b k c i n:Nat} {w w':World} {e:TypeId} {v:Value} {xs:List mZ} {S:dz} {s:ai} {p:en} {ps:List jh}
def Wj(o:gy)(g:aU bE):Bool:=g.o.kQ o
def MB(o:gy)(g:bJ bE):Bool:=g.o.kQ o
def OL(o:gy)(x:aX):Bool:=(ae6 x).kQ o
theorem MD(g:aU Value)(o:gy)(bo:Nat)(w:World)(ho:w.heap[bo]?=some (.cells #[.bool o.aG,.string o.host,.int .i64 o.port] 24 (0,0))) :
  aC 149 #[.agg g.cells.toArray,.pointer (some ⟨bo,0,none⟩)] w fun e w'=>e=.returned (.bool (OL o g.cells))/\Fr aW w w':=by
 have hC:=O (show OL o g.cells=g.o.kQ o from rfl);have heq:=jW g.o o;rw[hC.o];unfold aU.cells;have iv:Fr aW w _:=(ae aW w).alloc (.cells #[.bool g.o.aG,.string g.o.host,.int .i64 g.o.port,.bool g.proxy,.string g.user,.string g.pass,.int .i64 g.a.scheme,.string g.a.aP,.string g.a.bz,.string g.a.cC,.bool g.a.cD,.string g.a.eY,.bool g.a.du,g.a.dom,.int .i64 g.count,g.paths] 133)
 have qE:=O (iv.keep ho id);clear hC ho;go_enter func149,ntmps149;go_wp2_with (first|((with_reducible refine dv 6 ?_);refine aJ rfl 24 (.tmp 1) rfl bo rfl _ _ (0,0) _ qE.o underlying24 rfl af ?_)|fail)
 go_ret;exact⟨rfl,iv⟩
theorem ME(g:bJ Value)(o:gy)(bo:Nat)(w:World)(ho:w.heap[bo]?=some (.cells #[.bool o.aG,.string o.host,.int .i64 o.port] 24 (0,0))) :
  aC 151 #[.agg g.cells.toArray,.pointer (some ⟨bo,0,none⟩)] w fun e w'=>e=.returned (.bool (OL o g.cells))/\Fr aW w w':=by
 have hC:=O (show OL o g.cells=g.o.kQ o from rfl);have heq:=jW g.o o;rw[hC.o];unfold bJ.cells;have iv:Fr aW w _:=(ae aW w).alloc (.cells #[.bool g.o.aG,.string g.o.host,.int .i64 g.o.port,.bool g.proxy,.string g.path,.int .i64 g.a.scheme,.string g.a.aP,.string g.a.bz,.string g.a.cC,.bool g.a.cD,.string g.a.eY,.bool g.a.du,g.a.dom] 129);have qE:=O (iv.keep ho id);clear hC ho
 go_enter func151,ntmps151;go_wp2_with (first|((with_reducible refine dv 6 ?_);refine aJ rfl 24 (.tmp 1) rfl bo rfl _ _ (0,0) _ qE.o underlying24 rfl af ?_)|fail)
 go_ret;exact⟨rfl,iv⟩
theorem Di(S:dz)(w:World)(o:gy)(bo:Nat)(rs:List (aU Value))
  (ho:w.heap[bo]?=some (.cells #[.bool o.aG,.string o.host,.int .i64 o.port] 24 (0,0)))(h1:¬S bo) :
  gF S w 149 #[.pointer (some ⟨bo,0,none⟩)] (OL o) (rs.map aU.cells):=by
 intro x hx u hu;obtain⟨r,hr0,rfl⟩:=cj.1 hx;exact MD r o bo u (hu.keep ho h1)
theorem Dj(S:dz)(w:World)(o:gy)(bo:Nat)(rs:List (bJ Value))
  (ho:w.heap[bo]?=some (.cells #[.bool o.aG,.string o.host,.int .i64 o.port] 24 (0,0)))(h1:¬S bo) :
  gF S w 151 #[.pointer (some ⟨bo,0,none⟩)] (OL o) (rs.map bJ.cells):=by
 intro x hx u hu;obtain⟨r,hr0,rfl⟩:=cj.1 hx;exact ME r o bo u (hu.keep ho h1)
theorem Qg{r:aU Value}{g:aU bE}(h:aU.Reads (cZ base w) r g)(o:gy):OL o r.cells=Wj o g:=by
 unfold Wj;rw[<-h.1];rfl
theorem MF{r:bJ Value}{g:bJ bE}(h:bJ.Reads (cZ base w) r g)(o:gy):OL o r.cells=MB o g:=by
 unfold MB;rw[<-h.1];rfl
theorem jS.zb{base:Nat}{w:World}{v:Value}{rs:List (bJ Value)}{gs:List (bJ bE)}{p:aX->Bool}{q:bJ bE->Bool}(h1:OwnRows base 129 13 w v ((rs.map bJ.cells).filter (fun x=>!p x)))(h2:lf (bJ.Reads (cZ base w)) rs gs)
  (ZL:∀r g,bJ.Reads (cZ base w) r g->p r.cells=q g):jS base w v (gs.filter (fun g=>!q g))/\((rs.map bJ.cells).filter (fun x=>!p x)).length=(gs.filter (fun g=>!q g)).length:=by
 have hb:lf (bJ.Reads (cZ base w)) (rs.filter (fun r=>!p r.cells)) (gs.filter (fun g=>!q g)):=h2.filter (fun r g h=>by rw[ZL r g h]);have he:(rs.map bJ.cells).filter (fun x=>!p x)=(rs.filter (fun r=>!p r.cells)).map bJ.cells:=by rw[List.filter_map];rfl
 refine⟨⟨_,by rw[he]at h1;exact h1,hb⟩,?_⟩;rw[he,aj,hb.len]
def wE(base:Nat)(w:World)(b:Nat)(gv wv:Value)(gs:List (aU bE))(ws:List (bJ bE))(o:gy)(e:Ending)(w':World):Prop :=
 e=.returned (.int .i64 ((gs.length:Int)-((gs.filter (fun g=>!Wj o g)).length:Int)))/\km base w b gv wv (gs.filter (fun g=>!Wj o g)) (ws.filter (fun g=>!MB o g)) w'
theorem Fw(base:Nat)(w:World)(b:Nat)(gv wv:Value)(gs:List (aU bE))(ws:List (bJ bE))(o:gy)(h:dB base w b gv wv gs ws)(Mt:gs.length<34359738368) :
  aC 92 #[.pointer (some ⟨b,0,none⟩),.agg o.cells.toArray] w (wE base w b gv wv gs ws o):=by
 unfold gy.cells;obtain⟨av,cv,hv⟩:=h.bW.form;obtain⟨aw,cw,hw⟩:=h.waits.form;subst hv hw;have tL:=h.lt;have kR:=h.low;have oQ:Fr aW w (w.alloc (.cells #[.bool o.aG,.string o.host,.int .i64 o.port] 24)):=(ae aW w).alloc _;have b0:(w.alloc (.cells #[.bool o.aG,.string o.host,.int .i64 o.port] 24)).heap[w.heap.size]?=some (.cells #[.bool o.aG,.string o.host,.int .i64 o.port] 24 (0,0)):=aB _ _
 have h1:=h.dt oQ;have h0:=h1.c0;have B0:=O b0;clear b0;go_enter func92,ntmps92;go_wp2_with fail
 clear h0;generalize w.alloc (.cells _ 24)=W at *
 obtain⟨rs,Ac,qE⟩:=h1.bW;have hW:w.heap.size<=W.heap.size:=oQ.size;have Wi:∀k,own (.slice av gs.length cv) k->k<w.heap.size:=fun k hk=>by
  obtain⟨c,e⟩:=h.tF hk;exact bg e
 have hkw:∀k,own (.slice aw ws.length cw) k->k<w.heap.size:=fun k hk=>by
  obtain⟨c,e⟩:=h.vP hk;exact bg e
 have hd:=O (xi base 149 #[.pointer (some ⟨w.heap.size,0,none⟩)] (OL o) _ _ W call149
  (Di _ W o w.heap.size rs B0.o (fun hk=>by have:=Wi _ hk;omega)) Ac)
 refine hd.o.mono ?_;rintro e w2⟨a2,c2,rfl,xG,dD,fu⟩;have TL:=qE.mono (fun _ _ h=>h.mono (fun _ _ h=>h.fr dD (fun k hk hl=>h1.off k (Or.inr (Or.inl hk)) hl)));obtain⟨Wb,XW⟩:=hD.zb xG TL (fun r g h=>Qg h o);rw[XW]at Wb fu ⊢;have kh:=dD.keep h1.eG h1.gb;have ez:=h1.waits.fr dD (fun k hk hl=>h1.off k (Or.inr (Or.inl hk)) hl) (fun k hk hg=>h1.gw hg hk);have qz:=nC kR kh Wb ez
 have c0:w2.cell? ⟨b,0,none⟩=some (.slice av gs.length cv):=by simp[World.cell?,kh]
 have f0:w2.frozen? ⟨b,0,none⟩=false:=by simp[World.frozen?,kh]
 have XK:Fr (dh b (.slice av gs.length cv) (.slice aw ws.length cw)) w w2:=fL (oQ.mono (fun _ _ h=>absurd h id)) dD (fun k _ hk=>Or.inr (Or.inl hk));have HB:=XK.setCell (p:=⟨b,0,none⟩) (fun _=>Or.inl rfl) (.slice a2 (gs.filter (fun g=>!Wj o g)).length c2);have agm:=dD.keep B0.o (fun hk=>by have:=Wi _ hk;omega)
 have acg:(w2.setCell ⟨b,0,none⟩ (.slice a2 (gs.filter (fun g=>!Wj o g)).length c2)).heap[w.heap.size]?=_:=(sL ab 0 _).trans agm;have kP:∀k,dh b (.slice a2 (gs.filter (fun g=>!Wj o g)).length c2) (.slice aw ws.length cw) k->dh b (.slice av gs.length cv) (.slice aw ws.length cw) k\/w.heap.size<=k:=by
  intro k hk;unfold dh at hk;rw[fu]at hk;exact Or.inl hk
 have za:(gs.filter (fun g=>!Wj o g)).length<=gs.length:=bR _ _;clear hd Ac qE TL xG kh ez Wb h1 Wi XW XK agm;obtain⟨fs,kx⟩:∃fs,fs=gs.filter (fun g=>!Wj o g):=⟨_,rfl⟩;rw[<-kx]at qz fu HB kP acg za ⊢;have TM:=O kx;have agn:=O qz;have HBO:=O acg;have k1:=qz.c1;clear kx qz acg;go_wp2_with fail
 clear c0 f0 k1;generalize w2.setCell ⟨b,0,none⟩ (.slice a2 fs.length c2)=w3 at *
 have h3:=agn.o;obtain⟨rw',hq1,hq2⟩:=h3.waits;have hd:=O (Ev base 151 #[.pointer (some ⟨w.heap.size,0,none⟩)] (OL o) _ _ w3 call151
  (Dj _ w3 o w.heap.size rw' HBO.o (fun hk=>by have:=hkw _ hk;omega)) hq1)
 refine hd.o.mono ?_;rintro e w4⟨a4,c4,rfl,XN,kz,eU⟩;have ago:=hq2.mono (fun _ _ h=>h.mono (fun _ _ h=>h.fr kz (fun k hk hl=>h3.off k (Or.inr (Or.inr hk)) hl)));obtain⟨hwi,D8⟩:=jS.zb XN ago (fun r g h=>MF h o);rw[D8]at hwi eU ⊢;have tC:=kz.keep h3.eG h3.wb;have Bt:=h3.bW.fr kz (fun k hk hl=>h3.off k (Or.inr (Or.inr hk)) hl) (fun k hk hg=>h3.gw hk hg);have qz:=dB.ab5 kR tC Bt hwi
 have c1:w4.cell? ⟨b,1,none⟩=some (.slice aw ws.length cw):=by simp[World.cell?,tC]
 have f1:w4.frozen? ⟨b,1,none⟩=false:=by simp[World.frozen?,tC]
 have X1:=HB.step kz (fun k _ hk=>Or.inr (Or.inr hk));have HB5:=X1.setCell (p:=⟨b,1,none⟩) (fun _=>Or.inl rfl) (.slice a4 (ws.filter (fun g=>!MB o g)).length c4);have TY:∀k,dh b (.slice a2 fs.length c2) (.slice a4 (ws.filter (fun g=>!MB o g)).length c4) k->dh b (.slice av gs.length cv) (.slice aw ws.length cw) k\/w.heap.size<=k:=by
  intro k hk;refine kP k ?_;unfold dh at hk ⊢;rw[eU]at hk;exact hk
 obtain⟨fw,D'⟩:∃fw,fw=ws.filter (fun g=>!MB o g):=⟨_,rfl⟩;rw[<-D']at qz eU HB5 TY ⊢;have rq:=O D';have agp:=O qz;have al4:=O HB5;have k0:=qz.c0;clear D' qz hd hq1 hq2 ago XN hwi D8 tC Bt h3 HB X1 HB5 kP agn HBO;go_wp2_with fail
 go_ret;unfold wE;rw[<-TM.o, <-rq.o];exact⟨rfl,_,_,agp.o,al4.o,TY⟩
theorem OwnRows.FD{xs:cU}(h:OwnRows b e k w v xs){g:Nat}(hg:own v g):∃c,w.heap[g]?=some (.cells c e (0,0)):=by
 obtain⟨cap,cur,_,_,h2,_⟩:=h.open hg;exact⟨cur,h2⟩
structure eM (base:Nat) (w:World) (b:Nat) (v:Value) (ps:List en):Prop where
 low:base<=b
 eG:w.heap[b]?=some (.cells #[v] 121 (0,0))
 rows:OwnRows base 137 12 w v (ps.map en.cells)
def ig(b:Nat)(v:Value):dz:=fun k=>k=b\/own v k
def Dp(base:Nat)(w:World)(b:Nat)(v:Value)(ps:List en)(w':World):Prop :=
 ∃v',eM base w' b v' ps/\Fr (ig b v) w w'/\∀k,ig b v' k->ig b v k\/w.heap.size<=k
section
variable {base : Nat} {w w' : World} {b : Nat} {v : Value} {ps : List en}
theorem eM.lt(h:eM base w b v ps):b<w.heap.size:=bg h.eG
theorem eM.c0(h:eM base w b v ps):w.cell? ⟨b,0,none⟩=some v:=by simp[World.cell?,h.eG]
theorem eM.free(h:eM base w b v ps)(k:Nat):w.frozen? ⟨b,k,none⟩=false:=by simp[World.frozen?,h.eG]
theorem eM.form(h:eM base w b v ps):∃a c,v=.slice a ps.length c:=by
 obtain⟨a,c,e⟩:=h.rows.form;exact⟨a,c,by rw[e,aj]⟩
theorem eM.Dq(h:eM base w b v ps)(hk:own v k):k<w.heap.size:=h.rows.lt k hk
theorem eM.nb(h:eM base w b v ps):¬own v b:=fun hk=>by
 obtain⟨c,e⟩:=h.rows.FD hk;rw[h.eG]at e;cases e
theorem eM.ja(h:eM base w b v ps)(hk:ig b v k):k<w.heap.size:=by
 rcases hk with rfl|hk
 ·exact h.lt
 ·exact h.Dq hk
theorem eM.fr(h:eM base w b v ps)(hf:Fr S w w')(hn:∀k,ig b v k->¬S k):eM base w' b v ps :=
 ⟨h.low,hf.keep h.eG (hn b (Or.inl rfl)),h.rows.fr hf (fun k hk=>hn k (Or.inr hk))⟩
theorem eM.dt(h:eM base w b v ps)(hf:Fr aW w w'):eM base w' b v ps:=h.fr hf (fun _ _ h=>h)
end
theorem eM.set{base:Nat}{w:World}{b:Nat}{v0 v:Value}{ps:List en}(hl:base<=b)(hb:w.heap[b]?=some (.cells #[v0] 121 (0,0)))(hr:OwnRows base 137 12 w v (ps.map en.cells)) :
  eM base (w.setCell ⟨b,0,none⟩ v) b v ps:=by
 have kx:Fr (one b) w (w.setCell ⟨b,0,none⟩ v):=(ae (one b) w).setCell (p:=⟨b,0,none⟩) (fun _=>rfl) _;refine⟨hl,b_ hb 0 v,hr.fr kx ?_⟩;rintro k hk rfl;obtain⟨c,e⟩:=hr.FD hk;rw[hb]at e;cases e
theorem J6(p q:en)(w:World):(binOp .eql 137 (.agg p.cells.toArray) (.agg q.cells.toArray)).run prog w=.ok (.bool (p.kQ q)) w:=by
 obtain⟨⟨a,b,c⟩,⟨d,e,f⟩,g,i,j,k,l,m⟩:=p;obtain⟨⟨a',b',c'⟩,⟨d',e',f'⟩,g',i',j',k',l',m'⟩:=q;unfold en.cells;go_simp;simp only[show∀(P:Prop) [Decidable P] (W:World) (b:Bool),(if P then(Result.ok (Value.bool b) W:Result Value)else .ok (.bool false) W)=.ok (.bool (decide P&&b)) W from fun P _ W b=>by by_cases h:P<;>simp[h]]
 congr 2
 rw[eV];simp only[en.kQ,gy.kQ,cy,dx,dQ,and_assoc,iy]
abbrev oH := @eM.set
abbrev Kd:=ai×ai×Value
def Aq(r:Kd):aX:=[.string r.1,.string r.2.1,r.2.2]
theorem Uf{r:Kd}(h:r.2.2.oneCell'=true):∀u∈Aq r,u.oneCell'=true:=by
 intro u hu;simp only[Aq,bu,cg,dS]at hu;rcases hu with rfl|rfl|rfl
 ·rfl
 ·rfl
 ·exact h
def Ug(base:Nat)(w:World)(r:Kd)(x:mZ):Prop:=r.1=bA x.scheme/\r.2.1=bA x.token/\OwnRows base 142 2 w r.2.2 (x.params.map n_)
def kT(base:Nat)(w:World)(v:Value)(xs:List mZ):Prop:=∃rs:List Kd,OwnRows base 208 3 w v (rs.map Aq)/\lf (Ug base w) rs xs
theorem kT.nil(base:Nat)(w:World):kT base w (.slice none 0 0) []:=⟨[],dr _ _ _ _,.nil⟩
theorem kT.form(h:kT base w v xs):∃a c,v=.slice a xs.length c:=by
 obtain⟨rs,h1,h2⟩:=h;obtain⟨a,c,e⟩:=h1.form;exact⟨a,c,by rw[e,aj,h2.len]⟩
def G8(w:World)(S:dz):Prop:=∀k,S k->k<w.heap.size->∃cs t f,w.heap[k]?=some (.cells cs t f)/\t≠142/\t≠208
theorem G8.none(w:World):G8 w aW:=fun _ h=>absurd h id
theorem G8.cur(h:dk w c s i):G8 w (one c):=fun k hk _=>by
 obtain rfl:k=c:=hk;exact⟨_,_,_,h,ag,ag⟩
theorem kT.fr(h:kT base w v xs)(hf:Fr S w w')(hS:G8 w S):kT base w' v xs:=by
 obtain⟨rs,h1,h2⟩:=h;have key:∀ {k:Nat} {e:TypeId} {u:Value} {ys:cU},(e=142\/e=208)->OwnRows base e k w u ys->OwnRows base e k w' u ys:=by
  intro k e u ys he ho;refine ho.fr hf (fun b hb hs=>?_);obtain⟨cur,hc⟩:=ho.AY hb;obtain⟨cs,t,f,Wl,n1,n2⟩:=hS b hs (bg hc);rw[hc]at Wl;cases Wl;rcases he with rfl|rfl
  ·exact n1 rfl
  ·exact n2 rfl
 exact⟨rs,key (Or.inr rfl) h1,h2.mono (fun r x hr=>⟨hr.1,hr.2.1,key (Or.inl rfl) hr.2.2⟩)⟩
def agI(c b:Nat)(v:Value):dz:=fun k=>k=c\/k=b\/v.ownBlock=some k
def sq(base c b i:Nat)(s:ai)(xs:List mZ)(v:Value)(w:World)(e:Ending)(w':World):Prop :=
 Fr (agI c b v) w w'/\match oV xs.length (s.data.toList.drop i)with
  | .error n=>∃p,xd n p e w'
  | .ok q=>e=.returned .nilIface/\∃j v',j<=s.size/\dk w' c s j/\s.data.toList.drop j=q.2/\iu w' b c s v'/\kT base w' v' (xs++[q.1])
theorem sq.bad{p:Nat}{e:Ending}(h:oV xs.length (s.data.toList.drop i)=.error n)(hf:Fr (one c) w w')(he:xd n p e w'):sq base c b i s xs v w e w':=by
 refine⟨hf.mono (fun k _ e=>Or.inl e),?_⟩;rw[h];exact⟨p,he⟩
def acp(c b X i n:Nat)(s:ai)(v:Value)(W:Bs)(w wx:World):Prop :=
 ∃tok ps pv j,j<=s.size/\dk wx c s j/\iu wx b c s v/\ks wx X (bA W) (bA tok) pv/\OwnRows w.heap.size 142 2 wx pv (ps.map n_)/\Fr (one c) w wx /\
  oV n (s.data.toList.drop i)=.ok (⟨W,tok,ps⟩,s.data.toList.drop j)
def agJ(c b X K:Nat)(s:ai)(v:Value)(W:Bs)(w:World)(t:Value)(wr:World):Prop :=
 ∃mb ps pv j,t=.bool mb/\j<=s.size/\dk wr c s j/\iu wr b c s v/\ks wr X (bA W) ⟨#[]⟩ pv/\OwnRows w.heap.size 142 2 wr pv (ps.map n_)/\Fr (one c) w wr/\ps.length<=16/\(∀p∈ps,p.1.length<100000) /\
  gK ((s.data.toList.drop K).length+1) [] (s.data.toList.drop K)=(if mb then gK ((s.data.toList.drop j).length+1) ps (s.data.toList.drop j)else .ok (ps,s.data.toList.drop j))
theorem G9(ps:List jh)(r:Bs):gK (r.length+1) ps r=match kJ ps r with
  | .error e=>.error e
  | .ok q=>if nS q.2 then(if ln (iq q.2)then gK ((iq q.2).length+1) (ps++[q.1]) (iq q.2)else .ok (ps++[q.1],iq q.2))else .error 3:=by
 rw[gK];cases hp:kJ ps r with
 |error e=>rfl
 |ok q =>
  obtain⟨p,r1⟩:=q;simp only;have h1:=td hp;have h2:=ou r1;rw[tR r.length _ _ ab]
theorem Uh:(prog.info? 208).map (fun i=>(i.zero,i.size,i.bytes))=some (some (.agg #[.string ⟨#[]⟩,.string ⟨#[]⟩,.slice none 0 0]),3,56):=af
theorem OwnRows.Ye{xs:cU}(h:OwnRows base e k w v xs):v.oneCell'=true:=by
 obtain⟨a,c,e⟩:=h.form;rw[e];rfl
theorem MN(s:ai)(k:Nat):decide (k<cJ dH s.data.toList k)=pq (s.data.toList.drop k):=by
 rcases fC k s.data.toList.length with h|h
 ·rw[cM h];show _=dH s.data.toList[k];cases hb:dH s.data.toList[k]
  ·rw[lj (fun c hc=>by rw[List.getElem?_eq_getElem h]at hc;cases hc;exact hb)];simp
  ·rw[oq (List.getElem?_eq_getElem h) hb];have:=ll (p:=dH) (l:=s.data.toList) (i:=k+1);exact bK ab
 ·rw[cL h,lj (fun c hc=>by rw[List.getElem?_eq_none h]at hc;cases hc)];simp[pq]
theorem Ui(s:ai)(k:Nat):nS (s.data.toList.drop k)=nS (s.data.toList.drop (eG s k)):=by rw[oy,Gl]
theorem Yf(s:ai)(k:Nat):eG s (eG s k)=eG s k:=EJ _ _ _
theorem Yg(base b c i:Nat)(s:ai)(xs:List mZ)(v:Value)(w:World)(hr:iu w b c s v)(h:dk w c s i)(hv:kT base w v xs)(hb:base<=w.heap.size)
  (hs:s.size<100000)(hi:i<=s.size)(hl:xs.length<=8) :
  aC 120 #[.pointer (some ⟨b,0,none⟩)] w (sq base c b i s xs v w):=by
 have hm:s.size<=maxLen:=fl;have hbc:=hr.ne h;have q0:=hr.cell0;have hw:=Gz hi;have HWD:=O (vD s i);have PF:=(show oV xs.length (s.data.toList.drop i)=if(gR (s.data.toList.drop i)).isEmpty then .error 3
  else if xs.length=8 then .error 4
  else if nS (ic (s.data.toList.drop i))then .ok (⟨gR (s.data.toList.drop i),[],[]⟩,eS (ic (s.data.toList.drop i)))
  else if !pq (ic (s.data.toList.drop i))then .error 3
  else match singleR (eS (ic (s.data.toList.drop i)))with
   |some q=>.ok (⟨gR (s.data.toList.drop i),q.1,[]⟩,q.2)
   |none=>match gK ((eS (ic (s.data.toList.drop i))).length+1) [] (eS (ic (s.data.toList.drop i)))with
    | .error e=>.error e
    | .ok q=>.ok (⟨gR (s.data.toList.drop i),[],q.1⟩,q.2)from rfl)
 rw[<-vD]at PF;have D8:(gR (s.data.toList.drop i)).length<=s.size:=by
  have:=qQ (s.data.toList.drop i);simp at this;omega
 have Ii:=O PF;clear PF;go_enter func120,ntmps120;go_wp2_with fail
 refine(zX c s i w h).mono ?_;rintro e w0⟨rfl,rfl⟩;go_wp2_with fail
 refine(vn c s i w h hm hi).mono ?_;rintro e w1⟨rfl,pJ,dn⟩;replace pJ:dk w1 c s (Ie s i):=pJ;rw[show s.extract i (cJ fM s.data.toList i)=bA (gR (s.data.toList.drop i))from yK s i];generalize gR (s.data.toList.drop i)=W at *
 generalize Ie s i=K1 at *
 obtain⟨wx,MK⟩:∃wx,wx=w1.alloc (.cells #[.string (bA W),.string ⟨#[]⟩,.slice none 0 0] 208):=⟨_,rfl⟩;have dD:Fr aW w1 wx:=by rw[MK];exact(ae _ _).alloc _
 have hX:ks wx w1.heap.size (bA W) ⟨#[]⟩ (.slice none 0 0):=by rw[MK];exact aB _ _
 have hXw:w.heap.size<=w1.heap.size:=dn.size;have BV:=hr.one h dn;have oP:=BV.fr dD id;have sW:=pJ.fr dD id;have fS:=O (dn.trans dD.mU);have RR:=O MK;have HXS:=O (show wx.heap.size=w1.heap.size+1 by rw[MK];simp);have q1a:∀o:Obj,(w1.alloc o).cell? ⟨b,0,none⟩=some (.pointer (some ⟨c,0,none⟩)):=fun o=>(BV.fr ((ae aW w1).alloc o) id).cell0
 have q1b:∀o:Obj,(w1.alloc o).cell? ⟨b,2,none⟩=some v:=fun o=>(BV.fr ((ae aW w1).alloc o) id).lU;obtain⟨av,cv,Z5⟩:=hv.form;rw[Z5]at q1b;generalize hXe:w1.heap.size=X at *
 clear MK q0 dn;cases Ol:W.isEmpty
 case true =>
  have GF:(bA W).toList=[]:=by rw[mI];exact gj.1 Ol
  have zO:((bA W).toList== [])=true:=dQ.2 GF;have HE:=O (show oV xs.length (s.data.toList.drop i)=.error 3 by rw[Ii.o,aA Ol]);go_wp2_with fail
  rw[<-RR.o];refine(tq b c K1 3 s v wx oP sW).mono ?_;rintro e w4⟨⟨g,rfl,hg⟩,kz⟩;go_wp2;go_ret;exact sq.bad HE.o (fS.o.trans kz.mU) ⟨g,rfl,hg⟩
 case false =>
  have GF:¬(bA W).toList=[]:=by rw[mI];intro e;rw[e]at Ol;cases Ol
  have zO:((bA W).toList== [])=false:=aK.2 GF;by_cases h8:xs.length=8
  ·have Z':((xs.length:Int)==8)=true:=by rw[h8];rfl
   have HE:=O (show oV xs.length (s.data.toList.drop i)=.error 4 by rw[Ii.o,ar (by rw[Ol];simp),aA h8]);clear h8;go_wp2;go_ret;rw[<-RR.o];exact sq.bad HE.o (fS.o.alloc _) ⟨X+1,rfl,by rw[<-HXS.o];exact aB wx _⟩
  ·have Z':((xs.length:Int)==8)=false:=aK.2 ab;have Qq:=O (show oV xs.length (s.data.toList.drop i)=if nS (s.data.toList.drop K1)then .ok (⟨W,[],[]⟩,eS (s.data.toList.drop K1))
    else if !pq (s.data.toList.drop K1)then .error 3
    else match singleR (eS (s.data.toList.drop K1))with
     |some q=>.ok (⟨W,q.1,[]⟩,q.2)
     |none=>match gK ((eS (s.data.toList.drop K1)).length+1) [] (eS (s.data.toList.drop K1))with
      | .error e=>.error e
      | .ok q=>.ok (⟨W,[],q.1⟩,q.2)by rw[Ii.o,ar (by rw[Ol];simp),ar h8])
   clear Ii Ol;go_wp2_with fail
   rw[<-RR.o];refine(mf c s K1 wx sW hm hw).mono ?_;rintro e w3⟨rfl,tP,ik⟩;replace tP:dk w3 c s (eG s K1):=tP;have HBH:=O (show decide (K1<cJ dH s.data.toList K1)=pq (s.data.toList.drop K1)from MN s K1);rw[HBH.o];have rM:=xJ hw;have BX:=O (oy s K1);rw[<-oy,Ui]at Qq;have pI:=O (Yf s K1);generalize eG s K1=K2 at *
   have rh:=oP.one sW ik;have Dx:=hX.fr ik (fun e=>hX.ne sW e);have ij:=O (fS.o.trans ik);clear BV oP pJ sW hX dD ik q1a q1b GF zO Z' HBH BX
   go_upto_block 0 with fail
   go_cut [5,6,7,8]from 39 to 69 (fun _ _ _ _ wz=>acp c b X i xs.length s v W w wz)
   case first =>
    have hXX:=Dx.ne tP;have hXb:=Dx.neR rh;go_wp2_with fail
    refine(CC b c K2 s v w3 rh tP hm rM).mono ?_;rintro e w4⟨rfl,tM,kz⟩;rw[pI.o]at tM;have vh:=rh.one tP kz;have Yh:=Dx.fr kz hXX;have jH:=O (ij.o.trans kz);clear rh Dx tP kz;cases hov:nS (s.data.toList.drop K2)
    case true =>
     have HE:=O (show oV xs.length (s.data.toList.drop i)=.ok (⟨W,[],[]⟩,s.data.toList.drop K2)by rw[Qq.o,aA hov]);go_wp2_with fail
     go_meet
     exact⟨[],[],_,K2,rM,tM,vh,Yh,dr _ _ _ _,jH.o,HE.o⟩
    case false =>
     cases hbh:pq (s.data.toList.drop K1)
     case false =>
      have HE:=O (show oV xs.length (s.data.toList.drop i)=.error 3 by rw[Qq.o,ar (by rw[hov];simp),aA (by rw[hbh];rfl)]);go_wp2_with fail
      refine(tq b c K2 3 s v w4 vh tM).mono ?_;rintro e w5⟨⟨g,rfl,hg⟩,lC⟩;go_wp2;go_ret;exact sq.bad HE.o (jH.o.trans lC.mU) ⟨g,rfl,hg⟩
     case true =>
      have acr:=O (show oV xs.length (s.data.toList.drop i)=match singleR (s.data.toList.drop K2)with
       |some q=>.ok (⟨W,q.1,[]⟩,q.2)
       |none=>match gK ((s.data.toList.drop K2).length+1) [] (s.data.toList.drop K2)with
        | .error e=>.error e
        | .ok q=>.ok (⟨W,[],q.1⟩,q.2)by rw[Qq.o,ar (by rw[hov];simp),ar (by rw[hbh];simp)])
      clear Qq;go_wp2_with fail
      refine(L0 b c K2 s v w4 vh tM hs rM).mono ?_;intro e w5 p9;obtain⟨lC,nv⟩:=p9;have AZ:=vh.one tM lC;have hX5:=Yh.fr lC hXX;have w_:=O (jH.o.trans lC);have x1:=hX5.gV;have xf1:=hX5.free 1;have HS:=O (show∀u:Value,Fr (one X) w5 (w5.setCell ⟨X,1,none⟩ u)from fun u=>(ae (one X) w5).setCell (p:=⟨X,1,none⟩) (fun _=>rfl) u)
      have yj:=O (show∀u:Value,Fr (one c) w (w5.setCell ⟨X,1,none⟩ u)from fun u=>w_.o.step (HS.o u) (fun k hk e=>by have e':k=X:=e;omega));clear lC;cases hsr:singleR (s.data.toList.drop K2)with
      |some q =>
       obtain⟨tk,z⟩:=q;rw[hsr]at nv;obtain⟨rfl,j,hj,tN,hd5⟩:=nv;have HE:=O (show oV xs.length (s.data.toList.drop i)=.ok (⟨W,tk,[]⟩,s.data.toList.drop j)by rw[acr.o,hsr,hd5]);have hX6:ks (w5.setCell ⟨X,1,none⟩ (.string (bA tk))) X (bA W) (bA tk) (.slice none 0 0):=b_ hX5 1 _;have Ig:=AZ.fr (HS.o (.string (bA tk))) (fun e=>hXb (show b=X from e).symm)
       have Lr:=tN.fr (HS.o (.string (bA tk))) (fun e=>hXX (show c=X from e).symm);clear hd5;go_wp2_with fail
       go_meet
       exact⟨tk,[],_,j,hj,Lr,Ig,hX6,dr _ _ _ _,yj.o _,HE.o⟩
      |none =>
       rw[hsr]at nv;obtain⟨rfl,tN⟩:=nv;have HPN:=O (show oV xs.length (s.data.toList.drop i)=match gK ((s.data.toList.drop K2).length+1) [] (s.data.toList.drop K2)with
        | .error e=>.error e
        | .ok q=>.ok (⟨W,[],q.1⟩,q.2)by rw[acr.o,hsr])
       have hX6:ks (w5.setCell ⟨X,1,none⟩ (.string ⟨#[]⟩)) X (bA W) ⟨#[]⟩ (.slice none 0 0):=b_ hX5 1 _;have Ig:=AZ.fr (HS.o (.string ⟨#[]⟩)) (fun e=>hXb (show b=X from e).symm);have Lr:=tN.fr (HS.o (.string ⟨#[]⟩)) (fun e=>hXX (show c=X from e).symm);have Ih:=O (yj.o (.string ⟨#[]⟩));clear acr;go_wp2_with fail
       clear x1 xf1;generalize w5.setCell ⟨X,1,none⟩ (.string ⟨#[]⟩)=w7 at *
       go_loopw[7] (agJ c b X K2 s v W w) (fun t wr=>match t with| .bool true=>s.size-pg wr c+1|_=>0)
       case atStart=>exact⟨true,[],_,K2,rfl,rM,Lr,Ig,hX6,dr _ _ _ _,Ih.o,aQ,aQ,rfl⟩
       case round =>
        obtain⟨mb,ps,pv,j,rfl,hj,ZS,SR,hX8,RE,cN,ami,hpz,hpn⟩:=hrel;have Yi:=O hpn;clear hpn;cases mb
        case false =>
         have HE:=O (show oV xs.length (s.data.toList.drop i)=.ok (⟨W,[],ps⟩,s.data.toList.drop j)by rw[HPN.o,Yi.o];rfl);go_wp2_with fail
         go_meet
         exact⟨[],ps,pv,j,hj,ZS,SR,hX8,RE,cN,HE.o⟩
        case true =>
         have lT:=O (G9 ps (s.data.toList.drop j));have pM:=O ZS.pos;have hwr:w.heap.size<=wr.heap.size:=cN.size;go_wp2_with fail
         refine(PE w.heap.size b c X j s v ps (bA W) ⟨#[]⟩ pv wr SR ZS hX8 RE hwr hs hj ami hpz).mono ?_;intro e w9 hpp;obtain⟨XM,hpm⟩:=hpp;have hXc:=hX8.ne ZS;have Wm:=hX8.neR SR;have hbo:pv.ownBlock≠some b:=RE.not SR ag;have ZT:=SR.fr XM (fun hh=>by
          rcases hh with hh|hh|hh
          ·exact hbc hh
          ·exact Wm hh.symm
          ·exact hbo hh)
         have V7:=O (show Fr (one c) w w9 from cN.step XM (fun k hk hh=>by
          rcases hh with hh|hh|hh
          ·exact hh
          ·omega
          ·have:=RE.block k hh;omega))
         clear XM cN RE hX8 SR;cases yk:kJ ps (s.data.toList.drop j)with
         |error n =>
          rw[yk]at hpm;obtain⟨pl,g,rfl,hg⟩:=hpm;have HE:=O (show oV xs.length (s.data.toList.drop i)=.error n by
           rw[HPN.o,Yi.o,aA True.intro,lT.o,yk])
          clear yk;go_wp2_with fail
          go_ret;exact sq.bad HE.o V7.o ⟨g,rfl,hg⟩
         |ok q =>
          obtain⟨p,z⟩:=q;rw[yk]at hpm;obtain⟨rfl,j1,Jr,hj1,ZV,hd9,hX9,Xs⟩:=hpm;simp only at hd9 Xs;have hle:=td yk;rw[yk]at lT;have apb:=(E0 yk).2.2;have BC:(s.data.toList.drop j).length<=s.size:=aQ;have hjj:j<j1:=by
           have e1:z.length=s.size-j1:=by rw[<-hd9];simp
           have e2:(s.data.toList.drop j).length=s.size-j:=aQ;omega
          have WY:=O (show p.1.length<100000 from ab);clear yk hle BC;go_wp2_with fail
          refine(CC b c j1 s v w9 ZT ZV hm hj1).mono ?_;rintro e w10⟨rfl,Uj,L7⟩;have Yj:=ZT.one ZV L7;have agL:=hX9.fr L7 hXc;have acu:=Xs.fr L7 (fun k hk e=>by
           obtain rfl:k=c:=e;exact Xs.not ZV ag hk)
          have agM:=O (V7.o.trans L7);have hbj:=xJ (s:=s) hj1;have hbd:=O (oy s j1);rw[hd9]at hbd ⊢;clear L7 ZT hX9 Xs ZV;cases hov:nS z
          case false =>
           have HE:=O (show oV xs.length (s.data.toList.drop i)=.error 3 by
            rw[HPN.o,Yi.o,aA True.intro,lT.o];simp only[hov,cG,eR])
           go_wp2_with fail
           refine(tq b c _ 3 s v w10 Yj Uj).mono ?_;rintro e w11⟨⟨g,rfl,hg⟩,MO⟩;go_wp2;go_ret;exact sq.bad HE.o (agM.o.trans MO.mU) ⟨g,rfl,hg⟩
          case true =>
           go_wp2_with fail
           refine(CB b c _ s v w10 Yj Uj hm hbj).mono ?_;rintro e w11⟨rfl,Yk,MO⟩;have HGD:=O (show s.data.toList.drop (cJ n9 s.data.toList (eG s j1))=iq z by
            rw[jP,hbd.o];exact tS z)
           have Mt:cJ n9 s.data.toList (eG s j1)<=s.size:=by simpa using gS (p:=n9) (l:=s.data.toList) (i:=eG s j1) (by simpa using hbj)
           have Wa:j1<=cJ n9 s.data.toList (eG s j1):=aE (ll (p:=dH) (l:=s.data.toList) (i:=j1)) ll;generalize cJ n9 s.data.toList (eG s j1)=j2 at *
           have acw:=Yj.one Uj MO;have agN:=agL.fr MO hXc;have acx:=acu.fr MO (fun k hk e=>by
            obtain rfl:k=c:=e;exact acu.not Uj ag hk)
           have amk:=O (agM.o.trans MO);clear MO Yj agL acu Uj;go_wp2_with fail
           refine(LZ b c j2 s v w11 acw Yk hm Mt).mono ?_;rintro e w12⟨rfl,acy,yG⟩;rw[HGD.o];have agO:=acw.one Yk yG;have agP:=agN.fr yG hXc;have agQ:=acx.fr yG (fun k hk e=>by
            obtain rfl:k=c:=e;exact acx.not Yk ag hk)
           have agR:=O (amk.o.trans yG);have Lu:=O (show gK ((s.data.toList.drop K2).length+1) [] (s.data.toList.drop K2)=(if ln (iq z)then gK ((s.data.toList.drop j2).length+1) (ps++[p]) (s.data.toList.drop j2)else .ok (ps++[p],s.data.toList.drop j2))by
            rw[Yi.o,aA True.intro,lT.o];simp only[hov,dY];rw[HGD.o])
           have agS:(ps++[p]).length<=16:=bF;have agT:∀q∈ps++[p],q.1.length<100000:=by
            intro q hq;rcases bP.1 hq with g|g
            ·exact hpz q g
            ·simp at g;subst g;exact WY.o
           clear yG acw agN acx Yk hov hd9;cases We:ln (iq z)
           ·rw[We]at Lu;go_wp2;go_roundw
            case rel=>exact⟨false,ps++[p],Jr,j2,rfl,Mt,acy,agO,agP,agQ,agR.o,agS,agT,Lu.o⟩
            case measure=>simp
           ·rw[We]at Lu;go_wp2;go_roundw
            case rel=>exact⟨true,ps++[p],Jr,j2,rfl,Mt,acy,agO,agP,agQ,agR.o,agS,agT,Lu.o⟩
            case measure=>simp only;rw[pM.o,acy.pos];omega
   case rest =>
   obtain⟨tok,ps,pv,j,hj,tM,vh,Yh,RB,kz,hE⟩:=hcut;have HE:=O hE;clear hE Qq tP rh Dx;have hXc:=Yh.ne tM;have hXb:=Yh.neR vh;have V4:=hv.fr kz (G8.cur h);obtain⟨rs,ho,xg⟩:=V4;have uQ:=xg.len;subst Z5;have GD:(Value.slice av xs.length cv).ownBlock≠some c:=ho.not tM ag;have hob:(Value.slice av xs.length cv).ownBlock≠some b:=ho.not vh ag;have hpc:pv.ownBlock≠some c:=RB.not tM ag
   have Wf:pv.ownBlock≠some b:=RB.not vh ag;have cO:wc.ownsRow base 208 3 (.slice av xs.length cv) xs.length (rs.map Aq).flatten:=by
    have hh:=ho.2;rw[aj,uQ]at hh;exact hh
   have xc:c<wc.heap.size:=tM.lt;have ZN:b<wc.heap.size:=vh.lt;have hXl:X<wc.heap.size:=Yh.lt;have il:base<=wc.heap.size:=aE hb kz.size;have r2:=vh.lU;have rf2:=vh.free 2;have x0:=Yh.cell0;have x1:=Yh.gV;have x2:=Yh.lU;have hpo:pv.oneCell'=true:=RB.Ye;obtain⟨i0,ri,oZ,kI,kS⟩:=info_parts Uh;have wP:=O (Uf (r:=(bA W,bA tok,pv)) hpo);have HO:=O ho;have HB:=O xg;have HP4:=O RB;have h8l:xs.length<8:=ab
   clear hv ho xg RB;go_wp2_with fail
   go_region_law ((with_reducible refine mG ⟨some 77,_,_,_,_,_⟩ ?_)
                  refine step_append_lies _ bw _ _ _ bw base 208 i0 _ 3 56 underlying154 ri oZ kI kS rfl ab (.slice av xs.length cv) xs.length _ bw (by repeat(first|exact cO|apply World.ownsRow.alloc|apply World.ownsRow.drew)) ⟨wc.heap.size,0,none⟩ 1 1 (Aq (bA W,bA tok,pv)) bw bw (kB wc (Aq (bA W,bA tok,pv)) _) wP.o ab fl ab bF (wc.heap.size+1) aQ ?_
                  intro gg cap w5 vF jk SV abz
                  have qH:Fr (fun k=>(Value.slice av xs.length cv).ownBlock=some k) wc w5:=fg (by repeat(first|exact ae _ _|apply az|apply bq)) jk (fun _ hk _=>hk)
                  have k4:w5.cell? ⟨b,2,none⟩=some (.slice av xs.length cv):=(qH.cell (p:=⟨b,2,none⟩) ZN hob).trans r2
                  have e4:w5.frozen? ⟨b,2,none⟩=false:=(qH.frozen (p:=⟨b,2,none⟩) ZN hob).trans rf2)
   all_goals
    have AZ:iu w5 b c s (.slice av xs.length cv):=vh.fr qH hob;have tN:dk w5 c s j:=tM.fr qH GD;have j6:Fr (one b) w5 (w5.setCell ⟨b,2,none⟩ (.slice (some ⟨gg,0,none⟩) (xs.length+1) cap)):=(ae (one b) w5).setCell (p:=⟨b,2,none⟩) (fun _=>rfl) _;have Ig:iu (w5.setCell ⟨b,2,none⟩ (.slice (some ⟨gg,0,none⟩) (xs.length+1) cap)) b c s (.slice (some ⟨gg,0,none⟩) (xs.length+1) cap):=b_ AZ 2 _
    have Lr:=tN.fr j6 (fun e=>hbc (show c=b from e).symm);have hgb:gg≠b:=by
     rintro rfl;rcases SV with e|e
     ·exact hob e
     ·omega
    have hel:∀(u:Value) (qs:List jh),OwnRows base 142 2 wc u (qs.map n_)->OwnRows base 142 2 (w5.setCell ⟨b,2,none⟩ (.slice (some ⟨gg,0,none⟩) (xs.length+1) cap)) u (qs.map n_):=by
     intro u qs hu;have h1:OwnRows base 142 2 w5 u (qs.map n_):=hu.fr qH (fun k hk rM=>by
      obtain⟨cur,hcu⟩:=hu.AY hk;obtain⟨asr,agU⟩:=HO.o.AY rM;rw[hcu]at agU;simp at agU)
     exact h1.fr j6 (fun k hk e=>by
      obtain rfl:k=b:=e;exact h1.not AZ ag hk)
    have Lq:OwnRows base 208 3 w5 (.slice (some ⟨gg,0,none⟩) (xs.length+1) cap) ((rs++[(bA W,bA tok,pv)]).map Aq):=by
     refine⟨?_,?_⟩
     ·intro y hy;rw[bD]at hy;rcases bP.1 hy with g|g
      ·exact HO.o.1 y g
      ·simp at g;subst g;exact⟨rfl,wP.o⟩
     ·have e1:((rs++[(bA W,bA tok,pv)]).map Aq).length=xs.length+1:=by simp[uQ]
      have e2:((rs++[(bA W,bA tok,pv)]).map Aq).flatten=(rs.map Aq).flatten++Aq (bA W,bA tok,pv):=aQ;rw[e1,e2];exact vF
    have yN:=Lq.fr j6 (fun k hk e=>hgb (by
     simp only[Value.ownBlock,eh]at hk;rw[hk];exact e))
    have hcs:kT base (w5.setCell ⟨b,2,none⟩ (.slice (some ⟨gg,0,none⟩) (xs.length+1) cap)) (.slice (some ⟨gg,0,none⟩) (xs.length+1) cap) (xs++[⟨W,tok,ps⟩]) :=
     ⟨_,yN,(HB.o.mono (fun r x hr=>⟨hr.1,hr.2.1,hel _ _ hr.2.2⟩)).app (.cons ⟨rfl,rfl,hel _ _ (HP4.o.up hb)⟩ .nil)⟩
    have PH:=O (show Fr (agI c b (.slice av xs.length cv)) w (w5.setCell ⟨b,2,none⟩ (.slice (some ⟨gg,0,none⟩) (xs.length+1) cap))from
     ((kz.mono (fun k _ e=>Or.inl e)).trans (qH.mono (fun k _ e=>Or.inr (Or.inr e)))).trans (j6.mono (fun k _ e=>Or.inr (Or.inl e))))
    clear k4 e4 jk vF cO qH hel;go_wp2;go_ret;refine⟨PH.o,?_⟩;rw[HE.o];exact⟨rfl,j,_,hj,Lr,rfl,Ig,hcs⟩
def rG(part:Int)(method:ai)(hs:List gU):Bool:=decide (0<=part)&&(decide (part<4)&&(zY method.data.toList&&(decide (hs.length<=40)&&hs.all fun p=>zY p.1.data.toList)))
def agY(hs:List gU)(w1:World)(i:Value)(wr:World):Prop :=
 ∃k:Nat,k<=hs.length/\i=.int .i64 k/\(hs.take k).all (fun p=>zY p.1.data.toList)=true/\Fr aW w1 wr
theorem MT(r:fX Value)(hs:List gU)(w:World)(hr:ox w r.ef hs)(hz:FC r hs) :
  aC 64 #[.agg r.cells.toArray] w fun e w'=>e=.returned (.bool (rG r.part r.method hs))/\Fr aW w w':=by
 have gu:=O (show rG r.part r.method hs=(decide (0<=r.part)&&(decide (r.part<4)&&(zY r.method.data.toList&&(decide (hs.length<=40)&&hs.all fun p=>zY p.1.data.toList))))from rfl);generalize rG r.part r.method hs=res at gu ⊢;obtain⟨wb,jJ⟩:∃wb,wb=w.alloc (.cells r.cells.toArray 29):=⟨_,rfl⟩;have j6:Fr aW w wb:=by rw[jJ];exact(ae aW w).alloc _
 have lI:wb.heap[w.heap.size]?=some (.cells r.cells.toArray 29 (0,0)):=by rw[jJ];exact aB _ _
 obtain⟨ah,ch,gq⟩:=dN hr;rw[aj]at gq;have uj:r.cells=[.int .i64 r.part,.bool r.cQ.aG,.string r.cQ.host,.int .i64 r.cQ.port,.bool r.o.aG,.string r.o.host,.int .i64 r.o.port,.string r.path,.string r.query,.string r.method,.slice ah hs.length ch,.bool r.fF,.string r.body]:=by unfold fX.cells;rw[gq]
 have c0:wb.cell? ⟨w.heap.size,0,none⟩=some (.int .i64 r.part):=by simp only[World.cell?,lI];rw[uj];rfl
 have c9:wb.cell? ⟨w.heap.size,9,none⟩=some (.string r.method):=by simp only[World.cell?,lI];rw[uj];rfl
 have G1:wb.cell? ⟨w.heap.size,10,none⟩=some (.slice ah hs.length ch):=by simp only[World.cell?,lI];rw[uj];rfl
 have hh:=bG hr j6;rw[gq]at hh;obtain⟨kI,kS,SK⟩:=hz;have hlen:(hs.length:Int)<100000:=ab;have IS:=O (show∀U,aC 96 #[.string r.method] U fun e w'=>e=.returned (.bool (zY r.method.data.toList))/\U=w' from fun U=>Cg r.method U ab);have HH:=O hh;have HZ:=O SK;have lZ:=O j6;rw[uj]at jJ ⊢;have qC:=O jJ;rw[jJ]at c0 c9 G1;clear hr j6 lI gq uj hh SK jJ;by_cases h0:r.part<0
 ·have HR:=O (show res=false by rw[gu.o,bB ab];rfl);clear gu;go_enter func64,ntmps64;go_wp2;go_ret;exact⟨by rw[HR.o];rfl,by rw[<-qC.o];exact lZ.o⟩
 by_cases h4:r.part>=4
 ·have HR:=O (show res=false by rw[gu.o,bB (show¬r.part<4 from ab),kf,Bool.and_false]);clear gu;go_enter func64,ntmps64;go_wp2;go_ret;exact⟨by rw[HR.o];rfl,by rw[<-qC.o];exact lZ.o⟩
 have FI:=O (show res=(zY r.method.data.toList&&(decide (hs.length<=40)&&hs.all fun p=>zY p.1.data.toList))by rw[gu.o,bK (show 0<=r.part from ab),bK (show r.part<4 from ab)];rfl);clear gu;go_enter func64,ntmps64;go_wp2_with fail
 refine(IS.o _).mono ?_;rintro e w2⟨rfl,rfl⟩;cases him:zY r.method.data.toList
 ·have HR:=O (show res=false by rw[FI.o,him];rfl);clear FI;go_wp2;go_ret;exact⟨by rw[HR.o];rfl,by rw[<-qC.o];exact lZ.o⟩
 by_cases Gi:(hs.length:Int)>40
 ·have HR:=O (show res=false by rw[FI.o,him,bB (show¬hs.length<=40 from ab)];rfl);clear FI;go_wp2;go_ret;exact⟨by rw[HR.o];rfl,by rw[<-qC.o];exact lZ.o⟩
 have MJ:=O (show res=hs.all (fun p=>zY p.1.data.toList)by rw[FI.o,him,bK (show hs.length<=40 from ab)];rfl);clear FI him kI kS h0 h4 hlen;go_wp2;rw[<-qC.o];go_loopw[28] (agY hs wb) (fun i _=>hs.length-(intOf i).toNat)
 case atStart=>exact⟨0,aS _,rfl,rfl,ae _ _⟩
 case round =>
  obtain⟨k,hk,rfl,iE,cN⟩:=hrel;have Ab:=O iE;clear iE;by_cases fx:k<hs.length
  ·have qp:(k:Int)<(hs.length:Int):=ab;rcases(bG HH.o cN).2 with ⟨_,_,_,e,_⟩|⟨bk,o,c,hf,h1,h2,h3,h4c⟩
   ·have e2:=aq List.length e;rw[aj]at e2;have e3:hs.length=0:=e2;omega
   ·rw[aj]at hf h1;cases hf;unfold maxLen at h2;have dL:=O (List.getElem?_eq_getElem fx);have hc:=h4c k _ (by rw[List.getElem?_map,dL.o];rfl);have hd0:=hc 0 _ rfl;have Bo:=hc 1 _ rfl;simp only[Nat.add_zero]at hd0;have SK:(hs[k]).1.size<100000:=(HZ.o _ (bL fx)).1;generalize hs[k]=x at dL hd0 Bo SK
    have IS2:=O (show∀U,aC 96 #[.string x.1] U fun e w'=>e=.returned (.bool (zY x.1.data.toList))/\U=w' from fun U=>Cg x.1 U ab);have BG:=O (cN.alloc (.cells #[.string x.1,.string x.2] 142));clear h4c hc;go_wp2_with fail
    refine(IS2.o _).mono ?_;rintro e w3⟨rfl,rfl⟩;cases hx:zY x.1.data.toList
    ·have HR:=O (show res=false by rw[MJ.o];exact xY dL.o hx);clear hx;go_wp2;go_ret;exact⟨by rw[HR.o];rfl,lZ.o.trans BG.o⟩
    ·have hn:=O (ui dL.o Ab.o hx);clear hx;go_wp2;go_roundw
     case rel=>exact⟨k+1,ab,bf,hn.o,BG.o⟩
     case measure=>simp[intOf];omega
  ·have qp:¬(k:Int)<(hs.length:Int):=ab;have HR:=O (show res=true by rw[MJ.o];have h:=Ab.o;rwa [aD ab]at h);go_wp2;go_ret;exact⟨by rw[HR.o];rfl,lZ.o.trans cN⟩
theorem QD(p q:en)(w:World):(binOp .eql 137 (.agg p.cells.toArray) (.agg q.cells.toArray)).run prog w=.ok (.bool (p.kQ q)) w:=by
 obtain⟨⟨a,b,c⟩,⟨d,e,f⟩,g,i,j,k,l,m⟩:=p;obtain⟨⟨a',b',c'⟩,⟨d',e',f'⟩,g',i',j',k',l',m'⟩:=q;unfold en.cells;go_simp;simp only[show∀(P:Prop) [Decidable P] (W:World) (b:Bool),(if P then(Result.ok (Value.bool b) W:Result Value)else .ok (.bool false) W)=.ok (.bool (decide P&&b)) W from fun P _ W b=>by by_cases h:P<;>simp[h]]
 congr 2
 rw[eV];simp only[en.kQ,gy.kQ,cy,dx,dQ,and_assoc,iy]
def uq(w:World)(b o:Nat)(p:en):Prop :=
 w.cell? ⟨b,o,none⟩=some (.bool p.cQ.aG)/\w.cell? ⟨b,o+1,none⟩=some (.string p.cQ.host)/\w.cell? ⟨b,o+2,none⟩=some (.int .i64 p.cQ.port)/\w.cell? ⟨b,o+3,none⟩=some (.bool p.o.aG)/\w.cell? ⟨b,o+4,none⟩=some (.string p.o.host)/\w.cell? ⟨b,o+5,none⟩=some (.int .i64 p.o.port)/\w.cell? ⟨b,o+6,none⟩=some (.string p.path)/\w.cell? ⟨b,o+7,none⟩=some (.string p.query)/\w.cell? ⟨b,o+8,none⟩=some (.bool p.fF)/\w.cell? ⟨b,o+9,none⟩=some (.string p.method)/\w.cell? ⟨b,o+10,none⟩=some (.string p.head)/\w.cell? ⟨b,o+11,none⟩=some (.int .i64 p.pE)
theorem uq.of{o:Nat}(h:∀(i:Nat) u,p.cells[i]?=some u->w.cell? ⟨b,o+i,none⟩=some u):uq w b o p :=
 ⟨h 0 _ rfl,h 1 _ rfl,h 2 _ rfl,h 3 _ rfl,h 4 _ rfl,h 5 _ rfl,h 6 _ rfl,h 7 _ rfl,h 8 _ rfl,h 9 _ rfl,h 10 _ rfl,h 11 _ rfl⟩
theorem uq.eG(h:w.heap[b]?=some (.cells p.cells.toArray 137 (0,0))):uq w b 0 p :=
 uq.of fun i u hu=>by simp only[World.cell?,h];simpa using hu
theorem uG.lie{a:eZ}{ps:List en}(h:uG w (.slice a n c) ps)(hne:ps≠ []) :
  ∃bk of,a=some ⟨bk,of,none⟩/\n=ps.length/\n<=c/\n<=maxLen/\bk<w.heap.size/\∀(j:Nat) q,ps[j]?=some q->uq w bk (of+j*12) q:=by
 rcases h.2 with ⟨_,_,_,e,_⟩|⟨bk,of,c',hf,g1,g2,g3,g4⟩
 ·exact absurd (by simpa using e) hne
 ·cases hf;rw[aj]at g1;exact⟨bk,of,rfl,aQ,by simpa using g1,by rw[aj];have h1:ps.length<=c:=g1;exact aE h1 g2,g3,fun j q hq=>uq.of (g4 j q.cells (by rw[List.getElem?_map,hq];rfl))⟩
def ag3(w:World)(n:Nat)(f:Nat->Bool)(i:Value)(wr:World):Prop:=∃k:Nat,k<=n/\i=.int .i64 k/\f k=true/\Fr aW w wr
theorem Uv(v:Value)(ps:List en)(p:en)(w:World)(h:uG w v ps) :
  aC 198 #[v,.agg p.cells.toArray] w fun e w'=>e=.returned (.int .i64 (lH (fun q=>p.kQ q) ps 0))/\Fr aW w w':=by
 obtain⟨av,cv,hv⟩:=dN h;subst hv;rw[aj]at h ⊢;have HQ:=O (QD p);obtain⟨w1,oT⟩:∃w1,w1=w.alloc (.cells p.cells.toArray 137):=⟨_,rfl⟩;have dn:Fr aW w w1:=by rw[oT];exact(ae _ _).alloc _
 have lI:w1.heap[w.heap.size]?=some (.cells p.cells.toArray 137 (0,0)):=by rw[oT];exact aB _ _
 have HP:=O (show∀U,Fr aW w1 U->uq U w.heap.size 0 p from fun U hU=>uq.eG (hU.keep lI id));have HL:=O (show∀U,Fr aW w1 U->uG U (.slice av ps.length cv) ps from fun U hU=>bG h (dn.trans hU));have lB:=O dn;have PQ:=O oT;clear h dn lI;unfold en.cells at oT HQ ⊢;go_enter func198,ntmps198;go_wp2;rw[<-oT];clear oT
 go_loopw[8] (ag3 w1 ps.length (fun k=>!(ps.take k).any (fun q=>p.kQ q))) (fun i _=>ps.length-(intOf i).toNat)
 case atStart=>exact⟨0,aS _,rfl,rfl,ae _ _⟩
 case round =>
  obtain⟨k,hk,rfl,hn,cN⟩:=hrel;have HN:=O (show(ps.take k).any (fun q=>p.kQ q)=false by simpa using hn);clear hn;by_cases fx:k<ps.length
  ·have qp:(k:Int)<(ps.length:Int):=ab;have Uw:(0:Int)<=(k:Int):=ab;obtain⟨bk,of,rfl,g1,g2,g3,g4,g5⟩:=uG.lie (HL.o wr cN) (by intro e;rw[e]at fx;cases fx);unfold maxLen at g3;have dL:=O (List.getElem?_eq_getElem fx);generalize ps[k]=q at dL;obtain⟨c0,c1,c2,c3,c4,c5,c6,c7,c8,c9,G1,T9⟩:=g5 k q dL.o;obtain⟨d0,d1,d2,d3,d4,d5,d6,d7,d8,d9,d10,d11⟩:=HP.o wr cN
   simp only[bj]at d0 d1 d2 d3 d4 d5 d6 d7 d8 d9 d10 d11;have heq:=HQ.o q;unfold en.cells at heq;have hfd:=cN.drewN;clear g1 g5;cases he:p.kQ q
   ·have pN:=O (any_take_succ dL.o HN.o he);rw[he]at heq;clear he;go_wp2;go_quiet (fail);go_wp2;go_roundw
    case rel=>exact⟨k+1,ab,bf,by show(!(ps.take (k+1)).any (fun q=>p.kQ q))=true;rw[pN.o];rfl,cN.drewN _⟩
    case measure=>simp[intOf];omega
   ·have eX:=O (oF (i:=0) dL.o he HN.o);rw[he]at heq;clear he;go_wp2;go_quiet (fail);go_wp2;go_ret;rw[eX.o,bj];exact⟨rfl,lB.o.trans (cN.drewN _)⟩
  ·have qp:¬(k:Int)<(ps.length:Int):=ab;have eX:=O (show lH (fun q=>p.kQ q) ps 0= -1 from j8 (by have h:=HN.o;rw[aD ab]at h;exact h));go_wp2;go_ret;rw[eX.o];exact⟨rfl,lB.o.trans cN⟩
theorem Km(v:Value)(ps:List en)(p:en)(w:World)(h:uG w v ps) :
  aC 140 #[v,.agg p.cells.toArray] w fun e w'=>e=.returned (.bool (ps.any (fun q=>p.kQ q)))/\Fr aW w w':=by
 have hb:=O (ru (fun q=>p.kQ q) ps 0);have dn:Fr aW w (w.alloc (.cells p.cells.toArray 137)):=(ae _ _).alloc _;have lI:(w.alloc (.cells p.cells.toArray 137)).heap[w.heap.size]?=some (.cells p.cells.toArray 137 (0,0)):=aB _ _;have HC:=O (Uv v ps p _ (bG h dn));obtain⟨av,cv,hv⟩:=dN h;subst hv;rw[aj]at HC ⊢;have lB:=O dn;have G:=O lI;clear h dn lI;unfold en.cells at *
 go_enter func140,ntmps140;go_wp2_with (first|((with_reducible refine dv 6 ?_);refine aJ rfl 137 (.tmp 3) rfl w.heap.size rfl _ _ (0,0) _ G.o underlying137 rfl af ?_)|fail)
 refine HC.o.mono ?_;rintro e w2⟨rfl,dD⟩;go_wp2;go_ret;exact⟨ft hb.o,lB.o.trans dD⟩
def Av(w:World)(b:Nat)(r:fX Value):Prop :=
 w.cell? ⟨b,0,none⟩=some (.int .i64 r.part)/\w.cell? ⟨b,1,none⟩=some (.bool r.cQ.aG)/\w.cell? ⟨b,2,none⟩=some (.string r.cQ.host)/\w.cell? ⟨b,3,none⟩=some (.int .i64 r.cQ.port)/\w.cell? ⟨b,4,none⟩=some (.bool r.o.aG)/\w.cell? ⟨b,5,none⟩=some (.string r.o.host)/\w.cell? ⟨b,6,none⟩=some (.int .i64 r.o.port)/\w.cell? ⟨b,7,none⟩=some (.string r.path)/\w.cell? ⟨b,8,none⟩=some (.string r.query)/\w.cell? ⟨b,9,none⟩=some (.string r.method)/\w.cell? ⟨b,10,none⟩=some r.ef/\w.cell? ⟨b,11,none⟩=some (.bool r.fF)/\w.cell? ⟨b,12,none⟩=some (.string r.body)
theorem Av.eG{r:fX Value}(h:w.heap[b]?=some (.cells r.cells.toArray 29 (0,0))):Av w b r:=by
 have hc:∀i u,r.cells[i]?=some u->w.cell? ⟨b,i,none⟩=some u:=fun i u hu=>by simp only[World.cell?,h];simpa using hu
 exact⟨hc 0 _ rfl,hc 1 _ rfl,hc 2 _ rfl,hc 3 _ rfl,hc 4 _ rfl,hc 5 _ rfl,hc 6 _ rfl,hc 7 _ rfl,hc 8 _ rfl,hc 9 _ rfl,hc 10 _ rfl,hc 11 _ rfl,hc 12 _ rfl⟩
theorem Q2(ps:List en)(p:en):(pS ps p).length<=ps.length+1:=by
 unfold pS;split
 ·omega
 ·simp
theorem ye:∀(l ps:List en),(l.foldl pS ps).length<=ps.length+l.length
 |[],ps=>aQ
 |p :: l,ps=>by
  rw[List.foldl_cons];have h1:=ye l (pS ps p);have h2:=Q2 ps p;rw[List.length_cons];omega
theorem DP{n:Bs}{l:List Bs}(h:kK ps n=some l):l.length<=40:=by
 unfold kK at h;split at h
 ·cases h
 ·split at h
  ·cases h
  ·cases h;omega
theorem Q3{r:qF}{t:Bs}{now:Int}{m:List en}(h:tW r t ps now=.ok m):m.length<=81:=by
 unfold tW at h;cases e1:kK ps Jl with
 |none=>rw[e1]at h;cases h
 |some ms =>
  cases e2:kK ps xI with
  |none=>rw[e1,e2]at h;cases h
  |some hs =>
   rw[e1,e2]at h;simp only at h;split at h
   ·cases h
   ·split at h
    ·cases h
    ·cases h;have h1:=DP e1;have h2:=DP e2;unfold qF.bW;refine aE (ye _ _) ?_;rw[aj];have h3:=ye ((r.methods ms).map fun m=>r.Cw (now+mT ps) m (bA [])) [];rw[aj]at h3;have h4:(r.methods ms).length<=40:=by
      unfold qF.methods;split
      ·simp
      ·rw[aj];exact h1
     simp only[List.length_nil,bj]at h3;omega
def fX.Ld{D:Type}(r:fX D):Prop:=r.method.size<=140737488351232/\r.path.size<=140737488351232/\r.query.size<=140737488351232/\r.o.host.size<=140737488351232/\r.cQ.host.size<=140737488351232
theorem E':∀(l:List (jh×Bs)) (p:jh×Bs),xa (l++[p])=xa l++((if l.isEmpty then []else [44,32])++Py p.1 p.2)
 |[],p=>rfl
 |[a],p=>by simp[xa]
 |a :: b :: l,p=>by
  have ih:=E' (b :: l) p;simp only[List.cons_append,xa]at ih ⊢;rw[ih];simp
abbrev Item:=Bs×Bs×Bool
def Item.par(i:Item):jh×Bs:=((i.1,i.2.1),Ad i.2.2 i.2.1)
def GJ(l:List (jh×Bs)):Bs:=abr++32 :: xa l
def vG(l:List Item):Bs:=GJ (l.map Item.par)
def xM(l:List Item):Bool:=l.any fun i=>Ae i.2.2 i.2.1
theorem PK(p:jh×Bs)(l:List (jh×Bs)):0<(xa (p :: l)).length:=by
 cases l with
 |nil=>simp[xa,Py];omega
 |cons q l=>simp[xa,Py];omega
theorem Jy(l:List Item)(nm v:Bs)(q:Bool):qf (vG l) nm (Ad q v)=vG (l++[(nm,v,q)]):=by
 unfold qf vG;rw[bD];show _=GJ (l.map Item.par++[((nm,v),Ad q v)]);unfold GJ;rw[E'];cases l with
 |nil=>rfl
 |cons a l =>
  have h:=PK a.par (l.map Item.par);rw[aA (by simp[abr]at h ⊢; omega)];simp[Py]
theorem PL(l:List Item)(nm v:Bs)(q:Bool):(xM l||Ae q v)=xM (l++[(nm,v,q)]):=by unfold xM;simp
theorem SY(q:Bool)(v:Bs):(Ad q v).length<=2*v.length+2:=by
 have:=Jw v;unfold Ad;split
 ·split
  ·exact this
  ·simp
 ·omega
theorem SZ(l nm x:Bs):(qf l nm x).length<=l.length+nm.length+x.length+3:=by
 unfold qf;split<;>simp<;>omega
def vH(user aP bz uri Pz name:Bs):List Item:=[(Oc,user,true),(vr,aP,true),(vt,bz,true),(Xh,uri,true),(Od,Pz,true),(yy,name,false)]
def CK(eY count:Bs):List Item:=if eY.isEmpty then []else [(I7,eY,false),(nNc,count,false)]
def S_(eY:Bs)(cD:Bool)(bI:Bs):List Item:=if !eY.isEmpty||cD then [(BU,bI,true)]else []
def CM(cC:Bs):List Item:=if cC.isEmpty then []else [(lS,cC,true)]
def iH.items(d:iH):List Item:=vH d.user d.aP d.bz d.uri d.Pz (o7 d.scheme d.cD)++(CK d.eY d.count++(S_ d.eY d.cD d.bI++CM d.cC))
theorem iH.Xy{d:iH}(h:xM d.items=false):d.fair=true:=by
 unfold iH.items vH CK S_ CM xM at h;unfold iH.fair;simp only[List.any_append,List.any_cons,List.any_nil,Bool.or_false,eI,Ae,Bool.true_and,kf,Bool.not_eq_false']at h;obtain⟨⟨h1,h2,h3,h4,h5⟩,_,h6,h7⟩:=h;rw[h1,h2,h3,h4,h5];simp only[Bool.true_and];have g6:(!(!d.eY.isEmpty||d.cD)||nQ d.bI)=true:=by
  cases hc:(!d.eY.isEmpty||d.cD)
  ·rfl
  ·rw[hc]at h6;simpa[Ae]using h6
 have g7:(d.cC.isEmpty||nQ d.cC)=true:=by
  cases hc:d.cC.isEmpty
  ·rw[hc]at h7;simpa[Ae]using h7
  ·rfl
 rw[g6,g7];rfl
theorem iH.Xz(d:iH):xM d.items=!d.fair:=by
 unfold iH.items vH CK S_ CM xM iH.fair;cases d.eY.isEmpty<;>cases d.cD<;>cases d.cC.isEmpty<;>simp[Ae]
theorem CN{n v:Bs}(h:nQ v=true):Item.par (n,v,true)=qP n v:=by unfold Item.par qP Ad;simp[h]
theorem afo(n v:Bs):Item.par (n,v,false)=pP n v:=rfl
theorem iH.XA{d:iH}(h:d.fair=true):vG d.items=d.text:=by
 unfold iH.fair at h;simp only[cy]at h;obtain⟨f1,f2,f3,f4,f5,f6,f7⟩:=h;unfold vG GJ iH.text
 congr 2
 have e1:(vH d.user d.aP d.bz d.uri d.Pz (o7 d.scheme d.cD)).map Item.par=d.head:=by
  unfold vH iH.head;simp only[cz,cY,CN f1,CN f2,CN f3,CN f4,CN f5,afo]
 have e2:(CK d.eY d.count).map Item.par=d.two:=by
  unfold CK iH.two;split<;>rfl
 have e3:(S_ d.eY d.cD d.bI).map Item.par=d.cn:=by
  unfold S_ iH.cn;cases hc:(!d.eY.isEmpty||d.cD)
  ·rfl
  ·rw[hc]at f6;simp only[dY,cz,cY,CN (show nQ d.bI=true by simpa using f6)]
 have e4:(CM d.cC).map Item.par=d.op:=by
  unfold CM iH.op;cases hc:d.cC.isEmpty
  ·rw[hc]at f7;simp only[cG,eR,cz,cY,CN (show nQ d.cC=true by simpa using f7)]
  ·rfl
 unfold iH.items iH.yH;rw[bD,bD,bD,e1,e2,e3,e4]
theorem Jz(fG:Int)(aP bz cC eY:ai)(cD du:Bool)(dom:Value)(w:World) :
  aC 110 #[.agg #[.int .i64 fG,.string aP,.string bz,.string cC,.bool cD,.string eY,.bool du,dom]] w fun e w'=>e=.returned (.string (bA (o7 fG cD)))/\Fr aW w w':=by
 by_cases h3:fG=3
 ·cases cD with
  |false =>
   have E:bA (o7 fG false)=⟨#[83,72,65,45,50,53,54]⟩:=by unfold o7;rw[aA h3];rfl
   have HE:=O E;clear E;go_enter func110,ntmps110;go_wp2;go_ret;exact⟨by rw[HE.o];rfl,(ae aW w).alloc _⟩
  |true =>
   have E:bA (o7 fG true)=⟨#[83,72,65,45,50,53,54,45,115,101,115,115]⟩:=by unfold o7;rw[aA h3];rfl
   have HE:=O E;clear E;go_enter func110,ntmps110;go_wp2;go_ret;exact⟨by rw[HE.o];rfl,(ae aW w).alloc _⟩
 ·cases cD with
  |false =>
   have E:bA (o7 fG false)=⟨#[77,68,53]⟩:=by unfold o7;rw[ar h3];rfl
   have HE:=O E;clear E;go_enter func110,ntmps110;go_wp2;go_ret;exact⟨by rw[HE.o];rfl,(ae aW w).alloc _⟩
  |true =>
   have E:bA (o7 fG true)=⟨#[77,68,53,45,115,101,115,115]⟩:=by unfold o7;rw[ar h3];rfl
   have HE:=O E;clear E;go_enter func110,ntmps110;go_wp2;go_ret;exact⟨by rw[HE.o];rfl,(ae aW w).alloc _⟩
abbrev jx := @iH.Xz
abbrev jy := @iH.Xy
abbrev jz := @iH.XA
theorem Fx:(prog.info? 129).map (fun i=>(i.zero,i.size,i.bytes))=some (some (.agg vR),13,168):=af
def ach(base:Nat)(w:World)(b:Nat)(o:Nat)(g:bJ bE):Prop :=
 ∃r:bJ Value,(∀u∈r.cells,u.oneCell'=true)/\r.Reads (cZ base w) g/\∀(i:Nat) u,r.cells[i]?=some u->w.cell? ⟨b,o+i,none⟩=some u
theorem jS.at{base:Nat}{w:World}{v:Value}{gs:List (bJ bE)}(h:jS base w v gs){k:Nat}(hk:k<gs.length) :
  ∃b c,v=.slice (some ⟨b,0,none⟩) gs.length c/\gs.length<=maxLen/\ach base w b (k*13) gs[k]:=by
 obtain⟨rs,h1,h2⟩:=h;have hl:=h2.len;obtain⟨x,hx⟩:∃x,rs[k]?=some x:=⟨_,List.getElem?_eq_getElem ab⟩;obtain⟨g,hg,hr⟩:=h2.get hx;rw[List.getElem?_eq_getElem hk]at hg;obtain rfl:=jK hg;have dL:=h1.at;rcases h1.2.2 with ⟨_,hn⟩|⟨bk,cap,cur,hv,_⟩
 ·rw[aj]at hn;omega
 rcases dL.2 with ⟨_,_,e1,e,_⟩|⟨bk',o,c,ub,q1,q2,q3,q4⟩
 ·simp at e;rw[e]at hl;simp at hl;omega
 ·rw[hv]at ub;cases ub;rw[aj]at q1;refine⟨bk,cap,by rw[hv,aj,hl],ab,x,(h1.1 x.cells (cj.2 ⟨x,cA hx,rfl⟩)).2,hr,?_⟩;intro i u hu;have:=q4 k x.cells (by rw[List.getElem?_map,hx];rfl) i u hu;rw[bj]at this;exact this
def TZ(base:Nat)(w:World)(gs:List (bJ bE))(v:Value)(w':World):Prop:=jS base w' v gs/\∀k,v.ownBlock=some k->w.heap.size<=k
def Qh(base:Nat)(w:World)(gs:List (bJ bE))(e:Ending)(w':World):Prop :=
 ∃v,e=.returned v/\TZ base w gs v w'/\Fr aW w w'
def agq(base:Nat)(w:World)(gs:List (bJ bE))(v i:Value)(wr:World):Prop :=
 ∃(k:Nat) (rs:List (bJ Value)),k<=gs.length/\i=.int .i64 k/\OwnRows w.heap.size 129 13 wr v (rs.map bJ.cells)/\lf (bJ.Reads (cZ base wr)) rs (gs.take k)/\Fr aW w wr
def bJ.mL(r:bJ Value)(d:Value):bJ Value:={r with a:={r.a with dom:=d}}
theorem Qi(base:Nat)(w:World)(b:Nat)(gv wv:Value)(gs:List (aU bE))(ws:List (bJ bE))(h:dB base w b gv wv gs ws)(Mt:ws.length<68719476736) :
  aC 68 #[.pointer (some ⟨b,0,none⟩)] w (Qh base w ws):=by
 have h0:=h.c1;obtain⟨av,cv,hv⟩:=h.waits.form;subst hv;have tL:=h.lt;have il:base<=w.heap.size:=by have:=h.low;omega
 go_enter func68,ntmps68;go_wp2;clear h0;go_loopw[3,11] (agq base w ws) (fun _ i _=>ws.length-(intOf i).toNat)
 case atStart=>exact⟨0,[],aS _,rfl,dr _ _ _ _,.nil,ae _ _⟩
 case round =>
  obtain⟨k,rs,hk,rfl,cO,vO,cN⟩:=hrel;by_cases fx:k<ws.length
  ·obtain⟨bk,c,dn,si,r,dX,hr,hcell⟩:=(h.dt cN).waits.at fx;cases dn;unfold maxLen at si;obtain⟨ad,cd,B6⟩:=hr.2.2.2.2.2.2.2.2.2.2.rd.form;obtain⟨x,hx⟩:∃x,x=r.cells:=⟨_,rfl⟩;have lr:x.length=13:=by rw[hx];rfl
   have iM:=fun W=>run_storeCells_new (P:=prog) W 129 vR x (by rw[lr];rfl) (by rw[hx];exact dX);rw[<-hx]at hcell;have HX:=O hx;have Lw:=O (Ak lr);have aci:x[12]?=some (.slice ad ws[k].a.dom.length cd):=by rw[hx, <-B6];rfl
   clear hx;obtain⟨av,cv,TI⟩:=cO.form;subst TI;rw[aj,vO.len,aL,dJ hk]at cO ⊢;have iv:Fr aW wr (wr.alloc (.cells x.toArray 129)):=(ae aW wr).alloc _;have Z1:(wr.alloc (.cells x.toArray 129)).heap[wr.heap.size]?=some (.cells x.toArray 129 (0,0)):=aB _ _
   have c12:(wr.alloc (.cells x.toArray 129)).cell? ⟨wr.heap.size,12,none⟩=some (.slice ad ws[k].a.dom.length cd):=by simp only[World.cell?,Z1];simpa using aci
   have oP:=hr.mono (fun _ _ h=>h.dt iv);have xj:=oP.2.2.2.2.2.2.2.2.2.2;rw[B6]at xj;have CL:=O (rz base _ _ _ xj);go_wp2_with (first|((with_reducible refine dv 14 ?_);refine a_ rfl 129 (.tmp 13) rfl bk (k*13) rfl x _ hcell underlying129 rfl Lw.o ?_)|fail)
   have sk:=O (cN.trans iv);have fu:=cO.alloc (.cells x.toArray 129);have Da:=vO.mono (fun _ _ h=>h.mono (fun _ _ h=>h.dt iv));have jJ:w.heap.size<=wr.heap.size:=cN.size;have al5:=cO.lt;clear iM hcell hr cO vO cN xj iv;generalize wr.alloc (.cells x.toArray 129)=W2 at *
   refine CL.o.mono ?_;rintro e u1⟨a2,c2,rfl,Bp,dn⟩;have sJ:=dn.keep Z1 id;have rh:=oP.mono (fun _ _ h=>h.dt dn);have fk:=fu.fr dn (fun _ _ h=>h);have Db:=Da.mono (fun _ _ h=>h.mono (fun _ _ h=>h.dt dn));have Qe:=sk.o.trans dn;have agr:u1.cell? ⟨wr.heap.size,12,none⟩=some (.slice ad ws[k].a.dom.length cd):=by simp only[World.cell?,sJ];simpa using aci
   have f12:u1.frozen? ⟨wr.heap.size,12,none⟩=false:=by simp[World.frozen?,sJ]
   have kh:=b_ sJ 12 (.slice a2 ws[k].a.dom.length c2);have hye:x.toArray.setIfInBounds 12 (.slice a2 ws[k].a.dom.length c2)=(r.mL (.slice a2 ws[k].a.dom.length c2)).cells.toArray:=by rw[HX.o];rfl
   rw[hye]at kh;have rA:rL base u1 (one wr.heap.size):=by
    rintro j rfl hj;exact⟨ab,fun c f e=>by rw[sJ]at e;cases e⟩
   have kx:Fr (one wr.heap.size) u1 (u1.setCell ⟨wr.heap.size,12,none⟩ (.slice a2 ws[k].a.dom.length c2)):=(ae (one wr.heap.size) u1).setCell (p:=⟨wr.heap.size,12,none⟩) (fun _=>rfl) _;have zO:∀j,(Value.slice av k cv).ownBlock=some j->¬one wr.heap.size j:=by
    rintro j hj rfl;have:=al5 _ hj;omega
   have fS:=Qe.gI (p:=⟨wr.heap.size,12,none⟩) jJ (.slice a2 ws[k].a.dom.length c2);have vh:(r.mL (.slice a2 ws[k].a.dom.length c2)).Reads (cZ base (u1.setCell ⟨wr.heap.size,12,none⟩ (.slice a2 ws[k].a.dom.length c2))) ws[k] :=
    ⟨rh.1,rh.2.1,rh.2.2.1,rh.2.2.2.1,rh.2.2.2.2.1,rh.2.2.2.2.2.1,rh.2.2.2.2.2.2.1,rh.2.2.2.2.2.2.2.1,rh.2.2.2.2.2.2.2.2.1,rh.2.2.2.2.2.2.2.2.2.1,Bp.fr kx rA⟩
   have eU:=fk.fr kx zO;have MG:=Db.mono (fun _ _ h=>h.mono (fun _ _ h=>h.fr kx rA));have Dk:∀u∈(r.mL (.slice a2 ws[k].a.dom.length c2)).cells,u.oneCell'=true:=by
    intro u hu;simp only[bJ.cells,bJ.mL,bu,cg,dS]at hu;rcases hu with rfl|rfl|rfl|rfl|rfl|rfl|rfl|rfl|rfl|rfl|rfl|rfl|rfl<;>rfl
   obtain⟨y,hy⟩:∃y,y=(r.mL (.slice a2 ws[k].a.dom.length c2)).cells:=⟨_,rfl⟩;have ET:y.length=13:=by rw[hy];rfl
   rw[<-hy]at Dk kh;have HY:=O hy;have qg:=O kh;have HYI:=O (Ak ET);have GU:=O eU;have Fq:=vC y vR (by rw[ET];rfl);have hbw:w.heap.size<=(u1.setCell ⟨wr.heap.size,12,none⟩ (.slice a2 ws[k].a.dom.length c2)).heap.size:=fS.size;have T3:=O (show(u1.setCell ⟨wr.heap.size,12,none⟩ (.slice a2 ws[k].a.dom.length c2)).heap.size=u1.heap.size by simp[World.setCell]);have ar_:w.heap.size<=u1.heap.size:=Qe.size
   have uQ:=MG.len;rw[aL,dJ hk]at uQ;have Lv:(rs.map bJ.cells).length<68719476736:=by rw[aj,uQ];omega
   have Wk:=O vh;have agt:=O MG;have al6:=O fS;clear uQ rh oP fu fk Da Db Z1 sJ rA kx zO Bp hye hy aci c12 CL eU MG vh fS Qe dn kh sk B6
   go_wp2_with (first|((with_reducible refine dv 22 ?_);refine aJ rfl 129 (.tmp 5) rfl wr.heap.size rfl _ y.toArray (0,0) _ qg.o underlying129 rfl (by rw[ba];exact HYI.o) ?_)|(at_builtin;refine nH rfl _ _ 116 129 rfl 13 168 (.agg vR) underlying116 Fx rfl ag ag w.heap.size (.slice av k cv) (rs.map bJ.cells) rfl (GU.o.alloc _) u1.heap.size 1 y rfl ET Dk (fun i u hi=>by rw[<-T3.o,World.cell?_alloc_mark];simpa using hi) Lv bF ?_;intro v' w4 eU Bt))
   have Eb:=Fr.Oe _ Bt;have mK:=GU.o.off (base:=base) il ag;rw[HY.o]at eU;refine⟨⟨k+1,rs++[r.mL (.slice a2 ws[k].a.dom.length c2)],ab,bf,by rw[bD];exact eU,?_,al6.o.step Eb (fun j hj hS=>by have h2:=GU.o.block j hS;omega)⟩,by simp[intOf];omega⟩;rw[dT (List.getElem?_eq_getElem fx)];exact(agt.o.mono (fun _ _ h=>h.mono (fun _ _ h=>h.fr Eb mK))).app (.cons (Wk.o.mono (fun _ _ h=>h.fr Eb mK)) .nil)
  ·rw[aD ab]at vO;obtain⟨av,cv,TI⟩:=cO.form;subst TI;go_wp2;go_ret;exact⟨_,rfl,⟨⟨rs,cO.up il,vO⟩,cO.block⟩,cN⟩
def J2(base:Nat)(w:World)(gs:List (aU bE))(ws:List (bJ bE))(e:Ending)(w':World):Prop :=
 ∃b gv wv,e=.returned (.pointer (some ⟨b,0,none⟩))/\dB base w' b gv wv gs ws/\Fr aW w w'/\∀k,dh b gv wv k->w.heap.size<=k
theorem T4(base:Nat)(w:World)(b:Nat)(gv wv:Value)(gs:List (aU bE))(ws:List (bJ bE))(h:dB base w b gv wv gs ws)(Mt:gs.length<68719476736)(D8:ws.length<68719476736) :
  aC 39 #[.pointer (some ⟨b,0,none⟩)] w (J2 base w gs ws):=by
 have tL:=h.lt;have kR:=h.low;go_enter func39,ntmps39;go_wp2_with fail
 refine(Ms base w b gv wv gs ws h Mt).mono ?_;intro e u1 hp;obtain⟨v1,rfl,⟨IW,Ij⟩,dn⟩:=hp;go_wp2_with fail
 refine(Qi base u1 b gv wv gs ws (h.dt dn) D8).mono ?_;intro e u2 hp;obtain⟨v2,rfl,⟨yr,zU⟩,dD⟩:=hp;obtain⟨a1,c1,H'⟩:=IW.form;obtain⟨a2,c2,hv2⟩:=yr.form;subst H' hv2;have Bp:=dn.size;have Ci:=dD.size;have iv:Fr aW u2 (u2.alloc (.cells #[.slice a1 gs.length c1,.slice a2 ws.length c2] 118)):=(ae aW u2).alloc _
 have HB:=O (show dB base (u2.alloc (.cells #[.slice a1 gs.length c1,.slice a2 ws.length c2] 118)) u2.heap.size (.slice a1 gs.length c1) (.slice a2 ws.length c2) gs ws from
  ⟨ab,aB _ _,(IW.fr dD (mH _ _) (fun _ _ h=>h)).fr iv (mH _ _) (fun _ _ h=>h),yr.fr iv (mH _ _) (fun _ _ h=>h)⟩)
 have HF:=O ((dn.trans dD).trans iv);have HN:=O (show∀k,dh u2.heap.size (.slice a1 gs.length c1) (.slice a2 ws.length c2) k->w.heap.size<=k from fun k hk=>by
  rcases hk with rfl|hk|hk
  ·omega
  ·exact Ij k hk
  ·have:=zU k hk;omega)
 clear IW yr Ij zU iv h;go_wp2;go_ret;exact⟨_,_,_,rfl,HB.o,HF.o,HN.o⟩
theorem cZ.al_(base:Nat)(w:World)(x:ai):cZ base (w.alloc (.cells #[.string x] 9)) (.slice (some ⟨w.heap.size,0,none⟩) 1 1) [x]:=by
 refine⟨Or.inr ⟨w.heap.size,0,1,rfl,ay _,by simp[maxLen],aQ,fun j z hj=>?_⟩,fun k hk _=>?_,aQ⟩
 ·rw[bj,World.cell?_alloc_mark]
  match j,hj with
  |0,hj=>simp at hj;subst hj;rfl
 ·simp[Value.ownBlock]at hk;subst hk;exact⟨aQ,Or.inr ⟨_,_,aB _ _⟩⟩
