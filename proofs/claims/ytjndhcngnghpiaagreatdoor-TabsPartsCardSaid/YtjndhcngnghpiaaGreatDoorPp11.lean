/- Lemmas for the law's walk. -/
import Derived.Test.YtjndhcngnghpiaaGreatDoorPp10
set_option maxRecDepth 100000
set_option maxHeartbeats 16000000
set_option linter.unusedSimpArgs false
namespace Go.Proofs.YtjndhcngnghpiaaGreatDoor
open Go.Proofs.Tryz
open Go.RowKit
variable {base b k c i n:Nat} {w w':World} {e:TypeId} {v:Value} {xs:List mW} {S:dB} {s:ai} {p:ep} {ps:List jn}
def VZ(o:gz)(g:aU bG):Bool:=g.o.kM o
def L7(o:gz)(g:bL bG):Bool:=g.o.kM o
def N7(o:gz)(x:a_):Bool:=(aeJ x).kM o
theorem L_(g:aU Value)(o:gz)(bo:Nat)(w:World)(ho:w.heap[bo]?=some (.cells #[.bool o.aD,.string o.host,.int .i64 o.port] 24 (0,0))) :
  aE 149 #[.agg g.cells.toArray,.pointer (some ⟨bo,0,none⟩)] w fun e w'=>e=.returned (.bool (N7 o g.cells))/\Fr aX w w':=by
 have hC:=O (show N7 o g.cells=g.o.kM o from rfl);have heq:=j8 g.o o;rw[hC.o];unfold aU.cells;have ix:Fr aX w _:=(ae aX w).alloc (.cells #[.bool g.o.aD,.string g.o.host,.int .i64 g.o.port,.bool g.proxy,.string g.user,.string g.pass,.int .i64 g.a.scheme,.string g.a.aO,.string g.a.bC,.string g.a.cj,.bool g.a.cy,.string g.a.eZ,.bool g.a.dr,g.a.dom,.int .i64 g.count,g.paths] 133)
 have qD:=O (ix.keep ho id);clear hC ho;go_enter func149,ntmps149;go_wp2_with (first|((with_reducible refine dt 6 ?_);refine aJ rfl 24 (.tmp 1) rfl bo rfl _ _ (0,0) _ qD.o underlying24 rfl af ?_)|fail)
 go_ret;exact⟨rfl,ix⟩
theorem L'(g:bL Value)(o:gz)(bo:Nat)(w:World)(ho:w.heap[bo]?=some (.cells #[.bool o.aD,.string o.host,.int .i64 o.port] 24 (0,0))) :
  aE 151 #[.agg g.cells.toArray,.pointer (some ⟨bo,0,none⟩)] w fun e w'=>e=.returned (.bool (N7 o g.cells))/\Fr aX w w':=by
 have hC:=O (show N7 o g.cells=g.o.kM o from rfl);have heq:=j8 g.o o;rw[hC.o];unfold bL.cells;have ix:Fr aX w _:=(ae aX w).alloc (.cells #[.bool g.o.aD,.string g.o.host,.int .i64 g.o.port,.bool g.proxy,.string g.path,.int .i64 g.a.scheme,.string g.a.aO,.string g.a.bC,.string g.a.cj,.bool g.a.cy,.string g.a.eZ,.bool g.a.dr,g.a.dom] 129);have qD:=O (ix.keep ho id);clear hC ho
 go_enter func151,ntmps151;go_wp2_with (first|((with_reducible refine dt 6 ?_);refine aJ rfl 24 (.tmp 1) rfl bo rfl _ _ (0,0) _ qD.o underlying24 rfl af ?_)|fail)
 go_ret;exact⟨rfl,ix⟩
theorem CV(S:dB)(w:World)(o:gz)(bo:Nat)(rs:List (aU Value))
  (ho:w.heap[bo]?=some (.cells #[.bool o.aD,.string o.host,.int .i64 o.port] 24 (0,0)))(h1:¬S bo) :
  hD S w 149 #[.pointer (some ⟨bo,0,none⟩)] (N7 o) (rs.map aU.cells):=by
 intro x hx u hu;obtain⟨r,hr0,rfl⟩:=cz.1 hx;exact L_ r o bo u (hu.keep ho h1)
theorem CW(S:dB)(w:World)(o:gz)(bo:Nat)(rs:List (bL Value))
  (ho:w.heap[bo]?=some (.cells #[.bool o.aD,.string o.host,.int .i64 o.port] 24 (0,0)))(h1:¬S bo) :
  hD S w 151 #[.pointer (some ⟨bo,0,none⟩)] (N7 o) (rs.map bL.cells):=by
 intro x hx u hu;obtain⟨r,hr0,rfl⟩:=cz.1 hx;exact L' r o bo u (hu.keep ho h1)
theorem PH{r:aU Value}{g:aU bG}(h:aU.Reads (df base w) r g)(o:gz):N7 o r.cells=VZ o g:=by
 unfold VZ;rw[<-h.1];rfl
theorem Ma{r:bL Value}{g:bL bG}(h:bL.Reads (df base w) r g)(o:gz):N7 o r.cells=L7 o g:=by
 unfold L7;rw[<-h.1];rfl
theorem jY.yS{base:Nat}{w:World}{v:Value}{rs:List (bL Value)}{gs:List (bL bG)}{p:a_->Bool}{q:bL bG->Bool}(h1:OwnRows base 129 13 w v ((rs.map bL.cells).filter (fun x=>!p x)))(h2:ld (bL.Reads (df base w)) rs gs)
  (Zq:∀r g,bL.Reads (df base w) r g->p r.cells=q g):jY base w v (gs.filter (fun g=>!q g))/\((rs.map bL.cells).filter (fun x=>!p x)).length=(gs.filter (fun g=>!q g)).length:=by
 have hb:ld (bL.Reads (df base w)) (rs.filter (fun r=>!p r.cells)) (gs.filter (fun g=>!q g)):=h2.filter (fun r g h=>by rw[Zq r g h]);have he:(rs.map bL.cells).filter (fun x=>!p x)=(rs.filter (fun r=>!p r.cells)).map bL.cells:=by rw[List.filter_map];rfl
 refine⟨⟨_,by rw[he]at h1;exact h1,hb⟩,?_⟩;rw[he,aj,hb.len]
def wj(base:Nat)(w:World)(b:Nat)(gv wv:Value)(gs:List (aU bG))(ws:List (bL bG))(o:gz)(e:Ending)(w':World):Prop :=
 e=.returned (.int .i64 ((gs.length:Int)-((gs.filter (fun g=>!VZ o g)).length:Int)))/\kp base w b gv wv (gs.filter (fun g=>!VZ o g)) (ws.filter (fun g=>!L7 o g)) w'
theorem E5(base:Nat)(w:World)(b:Nat)(gv wv:Value)(gs:List (aU bG))(ws:List (bL bG))(o:gz)(h:dC base w b gv wv gs ws)(LV:gs.length<34359738368) :
  aE 92 #[.pointer (some ⟨b,0,none⟩),.agg o.cells.toArray] w (wj base w b gv wv gs ws o):=by
 unfold gz.cells;obtain⟨av,cv,hv⟩:=h.bZ.form;obtain⟨aw,cw,hw⟩:=h.waits.form;subst hv hw;have tK:=h.lt;have kO:=h.low;have oL:Fr aX w (w.alloc (.cells #[.bool o.aD,.string o.host,.int .i64 o.port] 24)):=(ae aX w).alloc _;have b0:(w.alloc (.cells #[.bool o.aD,.string o.host,.int .i64 o.port] 24)).heap[w.heap.size]?=some (.cells #[.bool o.aD,.string o.host,.int .i64 o.port] 24 (0,0)):=aC _ _
 have h1:=h.dx oL;have h0:=h1.c0;have B0:=O b0;clear b0;go_enter func92,ntmps92;go_wp2_with fail
 clear h0;generalize w.alloc (.cells _ 24)=W at *
 obtain⟨rs,zO,qD⟩:=h1.bZ;have hW:w.heap.size<=W.heap.size:=oL.size;have VY:∀k,own (.slice av gs.length cv) k->k<w.heap.size:=fun k hk=>by
  obtain⟨c,e⟩:=h.tB hk;exact bg e
 have hkw:∀k,own (.slice aw ws.length cw) k->k<w.heap.size:=fun k hk=>by
  obtain⟨c,e⟩:=h.vJ hk;exact bg e
 have hd:=O (w_ base 149 #[.pointer (some ⟨w.heap.size,0,none⟩)] (N7 o) _ _ W call149
  (CV _ W o w.heap.size rs B0.o (fun hk=>by have:=VY _ hk;omega)) zO)
 refine hd.o.mono ?_;rintro e w2⟨a2,c2,rfl,xx,dF,fy⟩;have Tj:=qD.mono (fun _ _ h=>h.mono (fun _ _ h=>h.fr dF (fun k hk hl=>h1.off k (Or.inr (Or.inl hk)) hl)));obtain⟨VS,Xx⟩:=g_.yS xx Tj (fun r g h=>PH h o);rw[Xx]at VS fy ⊢;have jX:=dF.keep h1.eK h1.gb;have eC:=h1.waits.fr dF (fun k hk hl=>h1.off k (Or.inr (Or.inl hk)) hl) (fun k hk hg=>h1.gw hg hk);have qy:=nx kO jX VS eC
 have c0:w2.cell? ⟨b,0,none⟩=some (.slice av gs.length cv):=by simp[World.cell?,jX]
 have f0:w2.frozen? ⟨b,0,none⟩=false:=by simp[World.frozen?,jX]
 have Xk:Fr (dk b (.slice av gs.length cv) (.slice aw ws.length cw)) w w2:=fN (oL.mono (fun _ _ h=>absurd h id)) dF (fun k _ hk=>Or.inr (Or.inl hk));have HB:=Xk.setCell (p:=⟨b,0,none⟩) (fun _=>Or.inl rfl) (.slice a2 (gs.filter (fun g=>!VZ o g)).length c2);have afZ:=dF.keep B0.o (fun hk=>by have:=VY _ hk;omega)
 have ab0:(w2.setCell ⟨b,0,none⟩ (.slice a2 (gs.filter (fun g=>!VZ o g)).length c2)).heap[w.heap.size]?=_:=(sG ab 0 _).trans afZ;have kL:∀k,dk b (.slice a2 (gs.filter (fun g=>!VZ o g)).length c2) (.slice aw ws.length cw) k->dk b (.slice av gs.length cv) (.slice aw ws.length cw) k\/w.heap.size<=k:=by
  intro k hk;unfold dk at hk;rw[fy]at hk;exact Or.inl hk
 have yR:(gs.filter (fun g=>!VZ o g)).length<=gs.length:=bR _ _;clear hd zO qD Tj xx jX eC VS h1 VY Xx Xk afZ;obtain⟨fs,kx⟩:∃fs,fs=gs.filter (fun g=>!VZ o g):=⟨_,rfl⟩;rw[<-kx]at qy fy HB kL ab0 yR ⊢;have Tk:=O kx;have af0:=O qy;have HBO:=O ab0;have k1:=qy.c1;clear kx qy ab0;go_wp2_with fail
 clear c0 f0 k1;generalize w2.setCell ⟨b,0,none⟩ (.slice a2 fs.length c2)=w3 at *
 have h3:=af0.o;obtain⟨rw',hq1,hq2⟩:=h3.waits;have hd:=O (D7 base 151 #[.pointer (some ⟨w.heap.size,0,none⟩)] (N7 o) _ _ w3 call151
  (CW _ w3 o w.heap.size rw' HBO.o (fun hk=>by have:=hkw _ hk;omega)) hq1)
 refine hd.o.mono ?_;rintro e w4⟨a4,c4,rfl,Xn,kH,eV⟩;have af1:=hq2.mono (fun _ _ h=>h.mono (fun _ _ h=>h.fr kH (fun k hk hl=>h3.off k (Or.inr (Or.inr hk)) hl)));obtain⟨hwi,DJ⟩:=jY.yS Xn af1 (fun r g h=>Ma h o);rw[DJ]at hwi eV ⊢;have uP:=kH.keep h3.eK h3.wb;have Ba:=h3.bZ.fr kH (fun k hk hl=>h3.off k (Or.inr (Or.inr hk)) hl) (fun k hk hg=>h3.gw hk hg);have qy:=dC.abO kO uP Ba hwi
 have c1:w4.cell? ⟨b,1,none⟩=some (.slice aw ws.length cw):=by simp[World.cell?,uP]
 have f1:w4.frozen? ⟨b,1,none⟩=false:=by simp[World.frozen?,uP]
 have XC:=HB.step kH (fun k _ hk=>Or.inr (Or.inr hk));have HB5:=XC.setCell (p:=⟨b,1,none⟩) (fun _=>Or.inl rfl) (.slice a4 (ws.filter (fun g=>!L7 o g)).length c4);have Tu:∀k,dk b (.slice a2 fs.length c2) (.slice a4 (ws.filter (fun g=>!L7 o g)).length c4) k->dk b (.slice av gs.length cv) (.slice aw ws.length cw) k\/w.heap.size<=k:=by
  intro k hk;refine kL k ?_;unfold dk at hk ⊢;rw[eV]at hk;exact hk
 obtain⟨fw,Gi⟩:∃fw,fw=ws.filter (fun g=>!L7 o g):=⟨_,rfl⟩;rw[<-Gi]at qy eV HB5 Tu ⊢;have rm:=O Gi;have af2:=O qy;have alF:=O HB5;have k0:=qy.c0;clear Gi qy hd hq1 hq2 af1 Xn hwi DJ uP Ba h3 HB XC HB5 kL af0 HBO;go_wp2_with fail
 go_ret;unfold wj;rw[<-Tk.o, <-rm.o];exact⟨rfl,_,_,af2.o,alF.o,Tu⟩
theorem OwnRows.Fe{xs:cX}(h:OwnRows b e k w v xs){g:Nat}(hg:own v g):∃c,w.heap[g]?=some (.cells c e (0,0)):=by
 obtain⟨cap,cur,_,_,h2,_⟩:=h.open hg;exact⟨cur,h2⟩
structure eP (base:Nat) (w:World) (b:Nat) (v:Value) (ps:List ep):Prop where
 low:base<=b
 eK:w.heap[b]?=some (.cells #[v] 121 (0,0))
 rows:OwnRows base 137 12 w v (ps.map ep.cells)
def ik(b:Nat)(v:Value):dB:=fun k=>k=b\/own v k
def C4(base:Nat)(w:World)(b:Nat)(v:Value)(ps:List ep)(w':World):Prop :=
 ∃v',eP base w' b v' ps/\Fr (ik b v) w w'/\∀k,ik b v' k->ik b v k\/w.heap.size<=k
section
variable {base : Nat} {w w' : World} {b : Nat} {v : Value} {ps : List ep}
theorem eP.lt(h:eP base w b v ps):b<w.heap.size:=bg h.eK
theorem eP.c0(h:eP base w b v ps):w.cell? ⟨b,0,none⟩=some v:=by simp[World.cell?,h.eK]
theorem eP.free(h:eP base w b v ps)(k:Nat):w.frozen? ⟨b,k,none⟩=false:=by simp[World.frozen?,h.eK]
theorem eP.form(h:eP base w b v ps):∃a c,v=.slice a ps.length c:=by
 obtain⟨a,c,e⟩:=h.rows.form;exact⟨a,c,by rw[e,aj]⟩
theorem eP.C5(h:eP base w b v ps)(hk:own v k):k<w.heap.size:=h.rows.lt k hk
theorem eP.nb(h:eP base w b v ps):¬own v b:=fun hk=>by
 obtain⟨c,e⟩:=h.rows.Fe hk;rw[h.eK]at e;cases e
theorem eP.je(h:eP base w b v ps)(hk:ik b v k):k<w.heap.size:=by
 rcases hk with rfl|hk
 ·exact h.lt
 ·exact h.C5 hk
theorem eP.fr(h:eP base w b v ps)(hf:Fr S w w')(hn:∀k,ik b v k->¬S k):eP base w' b v ps :=
 ⟨h.low,hf.keep h.eK (hn b (Or.inl rfl)),h.rows.fr hf (fun k hk=>hn k (Or.inr hk))⟩
theorem eP.dx(h:eP base w b v ps)(hf:Fr aX w w'):eP base w' b v ps:=h.fr hf (fun _ _ h=>h)
end
theorem eP.set{base:Nat}{w:World}{b:Nat}{v0 v:Value}{ps:List ep}(hl:base<=b)(hb:w.heap[b]?=some (.cells #[v0] 121 (0,0)))(hr:OwnRows base 137 12 w v (ps.map ep.cells)) :
  eP base (w.setCell ⟨b,0,none⟩ v) b v ps:=by
 have kx:Fr (one b) w (w.setCell ⟨b,0,none⟩ v):=(ae (one b) w).setCell (p:=⟨b,0,none⟩) (fun _=>rfl) _;refine⟨hl,cg hb 0 v,hr.fr kx ?_⟩;rintro k hk rfl;obtain⟨c,e⟩:=hr.Fe hk;rw[hb]at e;cases e
theorem JH(p q:ep)(w:World):(binOp .eql 137 (.agg p.cells.toArray) (.agg q.cells.toArray)).run prog w=.ok (.bool (p.kM q)) w:=by
 obtain⟨⟨a,b,c⟩,⟨d,e,f⟩,g,i,j,k,l,m⟩:=p;obtain⟨⟨a',b',c'⟩,⟨d',e',f'⟩,g',i',j',k',l',m'⟩:=q;unfold ep.cells;go_simp;simp only[show∀(P:Prop) [Decidable P] (W:World) (b:Bool),(if P then(Result.ok (Value.bool b) W:Result Value)else .ok (.bool false) W)=.ok (.bool (decide P&&b)) W from fun P _ W b=>by by_cases h:P<;>simp[h]]
 congr 2
 rw[eW];simp only[ep.kM,gz.kM,cF,dM,dP,and_assoc,jf]
abbrev oC := @eP.set
abbrev JQ:=ai×ai×Value
def Aa(r:JQ):a_:=[.string r.1,.string r.2.1,r.2.2]
theorem TJ{r:JQ}(h:r.2.2.oneCell'=true):∀u∈Aa r,u.oneCell'=true:=by
 intro u hu;simp only[Aa,bE,bU,dL]at hu;rcases hu with rfl|rfl|rfl
 ·rfl
 ·rfl
 ·exact h
def TK(base:Nat)(w:World)(r:JQ)(x:mW):Prop:=r.1=bA x.scheme/\r.2.1=bA x.token/\OwnRows base 142 2 w r.2.2 (x.params.map nX)
def kQ(base:Nat)(w:World)(v:Value)(xs:List mW):Prop:=∃rs:List JQ,OwnRows base 208 3 w v (rs.map Aa)/\ld (TK base w) rs xs
theorem kQ.nil(base:Nat)(w:World):kQ base w (.slice none 0 0) []:=⟨[],dp _ _ _ _,.nil⟩
theorem kQ.form(h:kQ base w v xs):∃a c,v=.slice a xs.length c:=by
 obtain⟨rs,h1,h2⟩:=h;obtain⟨a,c,e⟩:=h1.form;exact⟨a,c,by rw[e,aj,h2.len]⟩
def Gz(w:World)(S:dB):Prop:=∀k,S k->k<w.heap.size->∃cs t f,w.heap[k]?=some (.cells cs t f)/\t≠142/\t≠208
theorem Gz.none(w:World):Gz w aX:=fun _ h=>absurd h id
theorem Gz.cur(h:dm w c s i):Gz w (one c):=fun k hk _=>by
 obtain rfl:k=c:=hk;exact⟨_,_,_,h,ag,ag⟩
theorem kQ.fr(h:kQ base w v xs)(hf:Fr S w w')(hS:Gz w S):kQ base w' v xs:=by
 obtain⟨rs,h1,h2⟩:=h;have key:∀ {k:Nat} {e:TypeId} {u:Value} {ys:cX},(e=142\/e=208)->OwnRows base e k w u ys->OwnRows base e k w' u ys:=by
  intro k e u ys he ho;refine ho.fr hf (fun b hb hs=>?_);obtain⟨cur,hc⟩:=ho.AE hb;obtain⟨cs,t,f,PS,n1,n2⟩:=hS b hs (bg hc);rw[hc]at PS;cases PS;rcases he with rfl|rfl
  ·exact n1 rfl
  ·exact n2 rfl
 exact⟨rs,key (Or.inr rfl) h1,h2.mono (fun r x hr=>⟨hr.1,hr.2.1,key (Or.inl rfl) hr.2.2⟩)⟩
def agj(c b:Nat)(v:Value):dB:=fun k=>k=c\/k=b\/v.ownBlock=some k
def sj(base c b i:Nat)(s:ai)(xs:List mW)(v:Value)(w:World)(e:Ending)(w':World):Prop :=
 Fr (agj c b v) w w'/\match oQ xs.length (s.data.toList.drop i)with
  | .error n=>∃p,wV n p e w'
  | .ok q=>e=.returned .nilIface/\∃j v',j<=s.size/\dm w' c s j/\s.data.toList.drop j=q.2/\iw w' b c s v'/\kQ base w' v' (xs++[q.1])
theorem sj.bad{p:Nat}{e:Ending}(h:oQ xs.length (s.data.toList.drop i)=.error n)(hf:Fr (one c) w w')(he:wV n p e w'):sj base c b i s xs v w e w':=by
 refine⟨hf.mono (fun k _ e=>Or.inl e),?_⟩;rw[h];exact⟨p,he⟩
def ab9(c b X i n:Nat)(s:ai)(v:Value)(W:Bs)(w wx:World):Prop :=
 ∃tok ps pv j,j<=s.size/\dm wx c s j/\iw wx b c s v/\ks wx X (bA W) (bA tok) pv/\OwnRows w.heap.size 142 2 wx pv (ps.map nX)/\Fr (one c) w wx /\
  oQ n (s.data.toList.drop i)=.ok (⟨W,tok,ps⟩,s.data.toList.drop j)
def agk(c b X K:Nat)(s:ai)(v:Value)(W:Bs)(w:World)(t:Value)(wr:World):Prop :=
 ∃mb ps pv j,t=.bool mb/\j<=s.size/\dm wr c s j/\iw wr b c s v/\ks wr X (bA W) ⟨#[]⟩ pv/\OwnRows w.heap.size 142 2 wr pv (ps.map nX)/\Fr (one c) w wr/\ps.length<=16/\(∀p∈ps,p.1.length<100000) /\
  gL ((s.data.toList.drop K).length+1) [] (s.data.toList.drop K)=(if mb then gL ((s.data.toList.drop j).length+1) ps (s.data.toList.drop j)else .ok (ps,s.data.toList.drop j))
theorem GA(ps:List jn)(r:Bs):gL (r.length+1) ps r=match kG ps r with
  | .error e=>.error e
  | .ok q=>if nK q.2 then(if ll (ir q.2)then gL ((ir q.2).length+1) (ps++[q.1]) (ir q.2)else .ok (ps++[q.1],ir q.2))else .error 3:=by
 rw[gL];cases hp:kG ps r with
 |error e=>rfl
 |ok q =>
  obtain⟨p,r1⟩:=q;simp only;have h1:=sW hp;have h2:=om r1;rw[tQ r.length _ _ ab]
theorem TL:(prog.info? 208).map (fun i=>(i.zero,i.size,i.bytes))=some (some (.agg #[.string ⟨#[]⟩,.string ⟨#[]⟩,.slice none 0 0]),3,56):=af
theorem OwnRows.XQ{xs:cX}(h:OwnRows base e k w v xs):v.oneCell'=true:=by
 obtain⟨a,c,e⟩:=h.form;rw[e];rfl
theorem Mj(s:ai)(k:Nat):decide (k<cM dI s.data.toList k)=pk (s.data.toList.drop k):=by
 rcases fD k s.data.toList.length with h|h
 ·rw[cP h];show _=dI s.data.toList[k];cases hb:dI s.data.toList[k]
  ·rw[lh (fun c hc=>by rw[List.getElem?_eq_getElem h]at hc;cases hc;exact hb)];simp
  ·rw[od (List.getElem?_eq_getElem h) hb];have:=lj (p:=dI) (l:=s.data.toList) (i:=k+1);exact bD ab
 ·rw[cO h,lh (fun c hc=>by rw[List.getElem?_eq_none h]at hc;cases hc)];simp[pk]
theorem TM(s:ai)(k:Nat):nK (s.data.toList.drop k)=nK (s.data.toList.drop (eK s k)):=by rw[ou,FP]
theorem XR(s:ai)(k:Nat):eK s (eK s k)=eK s k:=El _ _ _
theorem XS(base b c i:Nat)(s:ai)(xs:List mW)(v:Value)(w:World)(hr:iw w b c s v)(h:dm w c s i)(hv:kQ base w v xs)(hb:base<=w.heap.size)
  (hs:s.size<100000)(hi:i<=s.size)(hl:xs.length<=8) :
  aE 120 #[.pointer (some ⟨b,0,none⟩)] w (sj base c b i s xs v w):=by
 have hm:s.size<=maxLen:=ft;have hbc:=hr.ne h;have q0:=hr.cell0;have hw:=F8 hi;have HWD:=O (vy s i);have OZ:=(show oQ xs.length (s.data.toList.drop i)=if(gQ (s.data.toList.drop i)).isEmpty then .error 3
  else if xs.length=8 then .error 4
  else if nK (ij (s.data.toList.drop i))then .ok (⟨gQ (s.data.toList.drop i),[],[]⟩,eU (ij (s.data.toList.drop i)))
  else if !pk (ij (s.data.toList.drop i))then .error 3
  else match singleR (eU (ij (s.data.toList.drop i)))with
   |some q=>.ok (⟨gQ (s.data.toList.drop i),q.1,[]⟩,q.2)
   |none=>match gL ((eU (ij (s.data.toList.drop i))).length+1) [] (eU (ij (s.data.toList.drop i)))with
    | .error e=>.error e
    | .ok q=>.ok (⟨gQ (s.data.toList.drop i),[],q.1⟩,q.2)from rfl)
 rw[<-vy]at OZ;have DJ:(gQ (s.data.toList.drop i)).length<=s.size:=by
  have:=qN (s.data.toList.drop i);simp at this;omega
 have Hk:=O OZ;clear OZ;go_enter func120,ntmps120;go_wp2_with fail
 refine(zH c s i w h).mono ?_;rintro e w0⟨rfl,rfl⟩;go_wp2_with fail
 refine(u_ c s i w h hm hi).mono ?_;rintro e w1⟨rfl,oP,dw⟩;replace oP:dm w1 c s (Hh s i):=oP;rw[show s.extract i (cM fO s.data.toList i)=bA (gQ (s.data.toList.drop i))from yA s i];generalize gQ (s.data.toList.drop i)=W at *
 generalize Hh s i=K1 at *
 obtain⟨wx,Mg⟩:∃wx,wx=w1.alloc (.cells #[.string (bA W),.string ⟨#[]⟩,.slice none 0 0] 208):=⟨_,rfl⟩;have dF:Fr aX w1 wx:=by rw[Mg];exact(ae _ _).alloc _
 have hX:ks wx w1.heap.size (bA W) ⟨#[]⟩ (.slice none 0 0):=by rw[Mg];exact aC _ _
 have hXw:w.heap.size<=w1.heap.size:=dw.size;have Bx:=hr.one h dw;have pN:=Bx.fr dF id;have rI:=oP.fr dF id;have fR:=O (dw.trans dF.mQ);have Rn:=O Mg;have HXS:=O (show wx.heap.size=w1.heap.size+1 by rw[Mg];simp);have q1a:∀o:Obj,(w1.alloc o).cell? ⟨b,0,none⟩=some (.pointer (some ⟨c,0,none⟩)):=fun o=>(Bx.fr ((ae aX w1).alloc o) id).cell0
 have q1b:∀o:Obj,(w1.alloc o).cell? ⟨b,2,none⟩=some v:=fun o=>(Bx.fr ((ae aX w1).alloc o) id).lQ;obtain⟨av,cv,ZJ⟩:=hv.form;rw[ZJ]at q1b;generalize hXe:w1.heap.size=X at *
 clear Mg q0 dw;cases NK:W.isEmpty
 case true =>
  have Ga:(bA W).toList=[]:=by rw[mH];exact gj.1 NK
  have zz:((bA W).toList== [])=true:=dP.2 Ga;have HE:=O (show oQ xs.length (s.data.toList.drop i)=.error 3 by rw[Hk.o,aB NK]);go_wp2_with fail
  rw[<-Rn.o];refine(sZ b c K1 3 s v wx pN rI).mono ?_;rintro e w4⟨⟨g,rfl,hg⟩,kH⟩;go_wp2;go_ret;exact sj.bad HE.o (fR.o.trans kH.mQ) ⟨g,rfl,hg⟩
 case false =>
  have Ga:¬(bA W).toList=[]:=by rw[mH];intro e;rw[e]at NK;cases NK
  have zz:((bA W).toList== [])=false:=aL.2 Ga;by_cases h8:xs.length=8
  ·have ZS:((xs.length:Int)==8)=true:=by rw[h8];rfl
   have HE:=O (show oQ xs.length (s.data.toList.drop i)=.error 4 by rw[Hk.o,ay (by rw[NK];simp),aB h8]);clear h8;go_wp2;go_ret;rw[<-Rn.o];exact sj.bad HE.o (fR.o.alloc _) ⟨X+1,rfl,by rw[<-HXS.o];exact aC wx _⟩
  ·have ZS:((xs.length:Int)==8)=false:=aL.2 ab;have PT:=O (show oQ xs.length (s.data.toList.drop i)=if nK (s.data.toList.drop K1)then .ok (⟨W,[],[]⟩,eU (s.data.toList.drop K1))
    else if !pk (s.data.toList.drop K1)then .error 3
    else match singleR (eU (s.data.toList.drop K1))with
     |some q=>.ok (⟨W,q.1,[]⟩,q.2)
     |none=>match gL ((eU (s.data.toList.drop K1)).length+1) [] (eU (s.data.toList.drop K1))with
      | .error e=>.error e
      | .ok q=>.ok (⟨W,[],q.1⟩,q.2)by rw[Hk.o,ay (by rw[NK];simp),ay h8])
   clear Hk NK;go_wp2_with fail
   rw[<-Rn.o];refine(lZ c s K1 wx rI hm hw).mono ?_;rintro e w3⟨rfl,tO,iG⟩;replace tO:dm w3 c s (eK s K1):=tO;have HBH:=O (show decide (K1<cM dI s.data.toList K1)=pk (s.data.toList.drop K1)from Mj s K1);rw[HBH.o];have sH:=xA hw;have BA:=O (ou s K1);rw[<-ou,TM]at PT;have pG:=O (XR s K1);generalize eK s K1=K2 at *
   have rf:=pN.one rI iG;have Da:=hX.fr iG (fun e=>hX.ne rI e);have il:=O (fR.o.trans iG);clear Bx pN oP rI hX dF iG q1a q1b Ga zz ZS HBH BA
   go_upto_block 0 with fail
   go_cut [5,6,7,8]from 39 to 69 (fun _ _ _ _ wz=>ab9 c b X i xs.length s v W w wz)
   case first =>
    have hXX:=Da.ne tO;have hXb:=Da.neR rf;go_wp2_with fail
    refine(Cg b c K2 s v w3 rf tO hm sH).mono ?_;rintro e w4⟨rfl,tL,kH⟩;rw[pG.o]at tL;have u0:=rf.one tO kH;have XT:=Da.fr kH hXX;have jN:=O (il.o.trans kH);clear rf Da tO kH;cases hov:nK (s.data.toList.drop K2)
    case true =>
     have HE:=O (show oQ xs.length (s.data.toList.drop i)=.ok (⟨W,[],[]⟩,s.data.toList.drop K2)by rw[PT.o,aB hov]);go_wp2_with fail
     go_meet
     exact⟨[],[],_,K2,sH,tL,u0,XT,dp _ _ _ _,jN.o,HE.o⟩
    case false =>
     cases hbh:pk (s.data.toList.drop K1)
     case false =>
      have HE:=O (show oQ xs.length (s.data.toList.drop i)=.error 3 by rw[PT.o,ay (by rw[hov];simp),aB (by rw[hbh];rfl)]);go_wp2_with fail
      refine(sZ b c K2 3 s v w4 u0 tL).mono ?_;rintro e w5⟨⟨g,rfl,hg⟩,lB⟩;go_wp2;go_ret;exact sj.bad HE.o (jN.o.trans lB.mQ) ⟨g,rfl,hg⟩
     case true =>
      have ab':=O (show oQ xs.length (s.data.toList.drop i)=match singleR (s.data.toList.drop K2)with
       |some q=>.ok (⟨W,q.1,[]⟩,q.2)
       |none=>match gL ((s.data.toList.drop K2).length+1) [] (s.data.toList.drop K2)with
        | .error e=>.error e
        | .ok q=>.ok (⟨W,[],q.1⟩,q.2)by rw[PT.o,ay (by rw[hov];simp),ay (by rw[hbh];simp)])
      clear PT;go_wp2_with fail
      refine(Lu b c K2 s v w4 u0 tL hs sH).mono ?_;intro e w5 pX;obtain⟨lB,oO⟩:=pX;have AF:=u0.one tL lB;have hX5:=XT.fr lB hXX;have wR:=O (jN.o.trans lB);have x1:=hX5.gU;have xf1:=hX5.free 1;have HS:=O (show∀u:Value,Fr (one X) w5 (w5.setCell ⟨X,1,none⟩ u)from fun u=>(ae (one X) w5).setCell (p:=⟨X,1,none⟩) (fun _=>rfl) u)
      have x_:=O (show∀u:Value,Fr (one c) w (w5.setCell ⟨X,1,none⟩ u)from fun u=>wR.o.step (HS.o u) (fun k hk e=>by have e':k=X:=e;omega));clear lB;cases hsr:singleR (s.data.toList.drop K2)with
      |some q =>
       obtain⟨tk,z⟩:=q;rw[hsr]at oO;obtain⟨rfl,j,hj,tM,hd5⟩:=oO;have HE:=O (show oQ xs.length (s.data.toList.drop i)=.ok (⟨W,tk,[]⟩,s.data.toList.drop j)by rw[ab'.o,hsr,hd5]);have hX6:ks (w5.setCell ⟨X,1,none⟩ (.string (bA tk))) X (bA W) (bA tk) (.slice none 0 0):=cg hX5 1 _;have Hi:=AF.fr (HS.o (.string (bA tk))) (fun e=>hXb (show b=X from e).symm)
       have KU:=tM.fr (HS.o (.string (bA tk))) (fun e=>hXX (show c=X from e).symm);clear hd5;go_wp2_with fail
       go_meet
       exact⟨tk,[],_,j,hj,KU,Hi,hX6,dp _ _ _ _,x_.o _,HE.o⟩
      |none =>
       rw[hsr]at oO;obtain⟨rfl,tM⟩:=oO;have HPN:=O (show oQ xs.length (s.data.toList.drop i)=match gL ((s.data.toList.drop K2).length+1) [] (s.data.toList.drop K2)with
        | .error e=>.error e
        | .ok q=>.ok (⟨W,[],q.1⟩,q.2)by rw[ab'.o,hsr])
       have hX6:ks (w5.setCell ⟨X,1,none⟩ (.string ⟨#[]⟩)) X (bA W) ⟨#[]⟩ (.slice none 0 0):=cg hX5 1 _;have Hi:=AF.fr (HS.o (.string ⟨#[]⟩)) (fun e=>hXb (show b=X from e).symm);have KU:=tM.fr (HS.o (.string ⟨#[]⟩)) (fun e=>hXX (show c=X from e).symm);have Hj:=O (x_.o (.string ⟨#[]⟩));clear ab';go_wp2_with fail
       clear x1 xf1;generalize w5.setCell ⟨X,1,none⟩ (.string ⟨#[]⟩)=w7 at *
       go_loopw[7] (agk c b X K2 s v W w) (fun t wr=>match t with| .bool true=>s.size-o9 wr c+1|_=>0)
       case atStart=>exact⟨true,[],_,K2,rfl,sH,KU,Hi,hX6,dp _ _ _ _,Hj.o,aS,aS,rfl⟩
       case round =>
        obtain⟨mb,ps,pv,j,rfl,hj,Zw,Sl,hX8,Ra,cR,alV,hpz,hpn⟩:=hrel;have XU:=O hpn;clear hpn;cases mb
        case false =>
         have HE:=O (show oQ xs.length (s.data.toList.drop i)=.ok (⟨W,[],ps⟩,s.data.toList.drop j)by rw[HPN.o,XU.o];rfl);go_wp2_with fail
         go_meet
         exact⟨[],ps,pv,j,hj,Zw,Sl,hX8,Ra,cR,HE.o⟩
        case true =>
         have mC:=O (GA ps (s.data.toList.drop j));have pJ:=O Zw.pos;have hwr:w.heap.size<=wr.heap.size:=cR.size;go_wp2_with fail
         refine(OY w.heap.size b c X j s v ps (bA W) ⟨#[]⟩ pv wr Sl Zw hX8 Ra hwr hs hj alV hpz).mono ?_;intro e w9 hpp;obtain⟨Xm,hpm⟩:=hpp;have hXc:=hX8.ne Zw;have V1:=hX8.neR Sl;have hbo:pv.ownBlock≠some b:=Ra.not Sl ag;have Zx:=Sl.fr Xm (fun hh=>by
          rcases hh with hh|hh|hh
          ·exact hbc hh
          ·exact V1 hh.symm
          ·exact hbo hh)
         have VO:=O (show Fr (one c) w w9 from cR.step Xm (fun k hk hh=>by
          rcases hh with hh|hh|hh
          ·exact hh
          ·omega
          ·have:=Ra.block k hh;omega))
         clear Xm cR Ra hX8 Sl;cases ya:kG ps (s.data.toList.drop j)with
         |error n =>
          rw[ya]at hpm;obtain⟨pl,g,rfl,hg⟩:=hpm;have HE:=O (show oQ xs.length (s.data.toList.drop i)=.error n by
           rw[HPN.o,XU.o,aB True.intro,mC.o,ya])
          clear ya;go_wp2_with fail
          go_ret;exact sj.bad HE.o VO.o ⟨g,rfl,hg⟩
         |ok q =>
          obtain⟨p,z⟩:=q;rw[ya]at hpm;obtain⟨rfl,j1,IX,Z3,Zy,hd9,hX9,WT⟩:=hpm;simp only at hd9 WT;have hle:=sW ya;rw[ya]at mC;have aoP:=(EC ya).2.2;have Bi:(s.data.toList.drop j).length<=s.size:=aS;have hjj:j<j1:=by
           have e1:z.length=s.size-j1:=by rw[<-hd9];simp
           have e2:(s.data.toList.drop j).length=s.size-j:=aS;omega
          have Wu:=O (show p.1.length<100000 from ab);clear ya hle Bi;go_wp2_with fail
          refine(Cg b c j1 s v w9 Zx Zy hm Z3).mono ?_;rintro e w10⟨rfl,TN,Lw⟩;have XV:=Zx.one Zy Lw;have agm:=hX9.fr Lw hXc;have acb:=WT.fr Lw (fun k hk e=>by
           obtain rfl:k=c:=e;exact WT.not Zy ag hk)
          have agn:=O (VO.o.trans Lw);have hbj:=xA (s:=s) Z3;have hbd:=O (ou s j1);rw[hd9]at hbd ⊢;clear Lw Zx hX9 WT Zy;cases hov:nK z
          case false =>
           have HE:=O (show oQ xs.length (s.data.toList.drop i)=.error 3 by
            rw[HPN.o,XU.o,aB True.intro,mC.o];simp only[hov,cJ,eT])
           go_wp2_with fail
           refine(sZ b c _ 3 s v w10 XV TN).mono ?_;rintro e w11⟨⟨g,rfl,hg⟩,Mk⟩;go_wp2;go_ret;exact sj.bad HE.o (agn.o.trans Mk.mQ) ⟨g,rfl,hg⟩
          case true =>
           go_wp2_with fail
           refine(Cf b c _ s v w10 XV TN hm hbj).mono ?_;rintro e w11⟨rfl,XW,Mk⟩;have HGD:=O (show s.data.toList.drop (cM nW s.data.toList (eK s j1))=ir z by
            rw[jU,hbd.o];exact tR z)
           have LV:cM nW s.data.toList (eK s j1)<=s.size:=by simpa using gR (p:=nW) (l:=s.data.toList) (i:=eK s j1) (by simpa using hbj)
           have VR:j1<=cM nW s.data.toList (eK s j1):=aH (lj (p:=dI) (l:=s.data.toList) (i:=j1)) lj;generalize cM nW s.data.toList (eK s j1)=j2 at *
           have ace:=XV.one TN Mk;have ago:=agm.fr Mk hXc;have acf:=acb.fr Mk (fun k hk e=>by
            obtain rfl:k=c:=e;exact acb.not TN ag hk)
           have alX:=O (agn.o.trans Mk);clear Mk XV agm acb TN;go_wp2_with fail
           refine(Lt b c j2 s v w11 ace XW hm LV).mono ?_;rintro e w12⟨rfl,acg,yw⟩;rw[HGD.o];have agp:=ace.one XW yw;have agq:=ago.fr yw hXc;have agr:=acf.fr yw (fun k hk e=>by
            obtain rfl:k=c:=e;exact acf.not XW ag hk)
           have ags:=O (alX.o.trans yw);have SK:=O (show gL ((s.data.toList.drop K2).length+1) [] (s.data.toList.drop K2)=(if ll (ir z)then gL ((s.data.toList.drop j2).length+1) (ps++[p]) (s.data.toList.drop j2)else .ok (ps++[p],s.data.toList.drop j2))by
            rw[XU.o,aB True.intro,mC.o];simp only[hov,d_];rw[HGD.o])
           have agt:(ps++[p]).length<=16:=bH;have agu:∀q∈ps++[p],q.1.length<100000:=by
            intro q hq;rcases bO.1 hq with g|g
            ·exact hpz q g
            ·simp at g;subst g;exact Wu.o
           clear yw ace ago acf XW hov hd9;cases VV:ll (ir z)
           ·rw[VV]at SK;go_wp2;go_roundw
            case rel=>exact⟨false,ps++[p],IX,j2,rfl,LV,acg,agp,agq,agr,ags.o,agt,agu,SK.o⟩
            case measure=>simp
           ·rw[VV]at SK;go_wp2;go_roundw
            case rel=>exact⟨true,ps++[p],IX,j2,rfl,LV,acg,agp,agq,agr,ags.o,agt,agu,SK.o⟩
            case measure=>simp only;rw[pJ.o,acg.pos];omega
   case rest =>
   obtain⟨tok,ps,pv,j,hj,tL,u0,XT,Q9,kH,hE⟩:=hcut;have HE:=O hE;clear hE PT tO rf Da;have hXc:=XT.ne tL;have hXb:=XT.neR u0;have VK:=hv.fr kH (Gz.cur h);obtain⟨rs,ho,wY⟩:=VK;have uM:=wY.len;subst ZJ;have KS:(Value.slice av xs.length cv).ownBlock≠some c:=ho.not tL ag;have hob:(Value.slice av xs.length cv).ownBlock≠some b:=ho.not u0 ag;have hpc:pv.ownBlock≠some c:=Q9.not tL ag
   have VW:pv.ownBlock≠some b:=Q9.not u0 ag;have cQ:wc.ownsRow base 208 3 (.slice av xs.length cv) xs.length (rs.map Aa).flatten:=by
    have hh:=ho.2;rw[aj,uM]at hh;exact hh
   have wU:c<wc.heap.size:=tL.lt;have Zs:b<wc.heap.size:=u0.lt;have hXl:X<wc.heap.size:=XT.lt;have im:base<=wc.heap.size:=aH hb kH.size;have r2:=u0.lQ;have rf2:=u0.free 2;have x0:=XT.cell0;have x1:=XT.gU;have x2:=XT.lQ;have hpo:pv.oneCell'=true:=Q9.XQ;obtain⟨i0,rL,pA,kP,kR⟩:=info_parts TL;have wH:=O (TJ (r:=(bA W,bA tok,pv)) hpo);have HO:=O ho;have HB:=O wY;have HP4:=O Q9;have h8l:xs.length<8:=ab
   clear hv ho wY Q9;go_wp2_with fail
   go_region_law ((with_reducible refine mF ⟨some 77,_,_,_,_,_⟩ ?_)
                  refine step_append_lies _ bB _ _ _ bB base 208 i0 _ 3 56 underlying154 rL pA kP kR rfl ab (.slice av xs.length cv) xs.length _ bB (by repeat(first|exact cQ|apply World.ownsRow.alloc|apply World.ownsRow.drew)) ⟨wc.heap.size,0,none⟩ 1 1 (Aa (bA W,bA tok,pv)) bB bB (ky wc (Aa (bA W,bA tok,pv)) _) wH.o ab ft ab bH (wc.heap.size+1) aS ?_
                  intro gg cap w5 vA jq Sp abh
                  have qG:Fr (fun k=>(Value.slice av xs.length cv).ownBlock=some k) wc w5:=fg (by repeat(first|exact ae _ _|apply aA|apply bq)) jq (fun _ hk _=>hk)
                  have k4:w5.cell? ⟨b,2,none⟩=some (.slice av xs.length cv):=(qG.cell (p:=⟨b,2,none⟩) Zs hob).trans r2
                  have e4:w5.frozen? ⟨b,2,none⟩=false:=(qG.frozen (p:=⟨b,2,none⟩) Zs hob).trans rf2)
   all_goals
    have AF:iw w5 b c s (.slice av xs.length cv):=u0.fr qG hob;have tM:dm w5 c s j:=tL.fr qG KS;have kf:Fr (one b) w5 (w5.setCell ⟨b,2,none⟩ (.slice (some ⟨gg,0,none⟩) (xs.length+1) cap)):=(ae (one b) w5).setCell (p:=⟨b,2,none⟩) (fun _=>rfl) _;have Hi:iw (w5.setCell ⟨b,2,none⟩ (.slice (some ⟨gg,0,none⟩) (xs.length+1) cap)) b c s (.slice (some ⟨gg,0,none⟩) (xs.length+1) cap):=cg AF 2 _
    have KU:=tM.fr kf (fun e=>hbc (show c=b from e).symm);have hgb:gg≠b:=by
     rintro rfl;rcases Sp with e|e
     ·exact hob e
     ·omega
    have hel:∀(u:Value) (qs:List jn),OwnRows base 142 2 wc u (qs.map nX)->OwnRows base 142 2 (w5.setCell ⟨b,2,none⟩ (.slice (some ⟨gg,0,none⟩) (xs.length+1) cap)) u (qs.map nX):=by
     intro u qs hu;have h1:OwnRows base 142 2 w5 u (qs.map nX):=hu.fr qG (fun k hk sH=>by
      obtain⟨cur,hcu⟩:=hu.AE hk;obtain⟨ar4,agv⟩:=HO.o.AE sH;rw[hcu]at agv;simp at agv)
     exact h1.fr kf (fun k hk e=>by
      obtain rfl:k=b:=e;exact h1.not AF ag hk)
    have KT:OwnRows base 208 3 w5 (.slice (some ⟨gg,0,none⟩) (xs.length+1) cap) ((rs++[(bA W,bA tok,pv)]).map Aa):=by
     refine⟨?_,?_⟩
     ·intro y hy;rw[bI]at hy;rcases bO.1 hy with g|g
      ·exact HO.o.1 y g
      ·simp at g;subst g;exact⟨rfl,wH.o⟩
     ·have e1:((rs++[(bA W,bA tok,pv)]).map Aa).length=xs.length+1:=by simp[uM]
      have e2:((rs++[(bA W,bA tok,pv)]).map Aa).flatten=(rs.map Aa).flatten++Aa (bA W,bA tok,pv):=aS;rw[e1,e2];exact vA
    have yD:=KT.fr kf (fun k hk e=>hgb (by
     simp only[Value.ownBlock,dW]at hk;rw[hk];exact e))
    have hcs:kQ base (w5.setCell ⟨b,2,none⟩ (.slice (some ⟨gg,0,none⟩) (xs.length+1) cap)) (.slice (some ⟨gg,0,none⟩) (xs.length+1) cap) (xs++[⟨W,tok,ps⟩]) :=
     ⟨_,yD,(HB.o.mono (fun r x hr=>⟨hr.1,hr.2.1,hel _ _ hr.2.2⟩)).app (.cons ⟨rfl,rfl,hel _ _ (HP4.o.up hb)⟩ .nil)⟩
    have O2:=O (show Fr (agj c b (.slice av xs.length cv)) w (w5.setCell ⟨b,2,none⟩ (.slice (some ⟨gg,0,none⟩) (xs.length+1) cap))from
     ((kH.mono (fun k _ e=>Or.inl e)).trans (qG.mono (fun k _ e=>Or.inr (Or.inr e)))).trans (kf.mono (fun k _ e=>Or.inr (Or.inl e))))
    clear k4 e4 jq vA cQ qG hel;go_wp2;go_ret;refine⟨O2.o,?_⟩;rw[HE.o];exact⟨rfl,j,_,hj,KU,rfl,Hi,hcs⟩
def rD(part:Int)(method:ai)(hs:List gT):Bool:=decide (0<=part)&&(decide (part<4)&&(zI method.data.toList&&(decide (hs.length<=40)&&hs.all fun p=>zI p.1.data.toList)))
def agz(hs:List gT)(w1:World)(i:Value)(wr:World):Prop :=
 ∃k:Nat,k<=hs.length/\i=.int .i64 k/\(hs.take k).all (fun p=>zI p.1.data.toList)=true/\Fr aX w1 wr
theorem Mo(r:fW Value)(hs:List gT)(w:World)(hr:ot w r.ef hs)(hz:Fc r hs) :
  aE 64 #[.agg r.cells.toArray] w fun e w'=>e=.returned (.bool (rD r.part r.method hs))/\Fr aX w w':=by
 have gy:=O (show rD r.part r.method hs=(decide (0<=r.part)&&(decide (r.part<4)&&(zI r.method.data.toList&&(decide (hs.length<=40)&&hs.all fun p=>zI p.1.data.toList))))from rfl);generalize rD r.part r.method hs=res at gy ⊢;obtain⟨wb,jP⟩:∃wb,wb=w.alloc (.cells r.cells.toArray 29):=⟨_,rfl⟩;have kf:Fr aX w wb:=by rw[jP];exact(ae aX w).alloc _
 have l_:wb.heap[w.heap.size]?=some (.cells r.cells.toArray 29 (0,0)):=by rw[jP];exact aC _ _
 obtain⟨ah,ch,gu⟩:=dR hr;rw[aj]at gu;have ui:r.cells=[.int .i64 r.part,.bool r.cG.aD,.string r.cG.host,.int .i64 r.cG.port,.bool r.o.aD,.string r.o.host,.int .i64 r.o.port,.string r.path,.string r.query,.string r.method,.slice ah hs.length ch,.bool r.fq,.string r.body]:=by unfold fW.cells;rw[gu]
 have c0:wb.cell? ⟨w.heap.size,0,none⟩=some (.int .i64 r.part):=by simp only[World.cell?,l_];rw[ui];rfl
 have c9:wb.cell? ⟨w.heap.size,9,none⟩=some (.string r.method):=by simp only[World.cell?,l_];rw[ui];rfl
 have Gu:wb.cell? ⟨w.heap.size,10,none⟩=some (.slice ah hs.length ch):=by simp only[World.cell?,l_];rw[ui];rfl
 have hh:=bM hr kf;rw[gu]at hh;obtain⟨kP,kR,Sf⟩:=hz;have hlen:(hs.length:Int)<100000:=ab;have IS:=O (show∀U,aE 96 #[.string r.method] U fun e w'=>e=.returned (.bool (zI r.method.data.toList))/\U=w' from fun U=>BQ r.method U ab);have HH:=O hh;have HZ:=O Sf;have lV:=O kf;rw[ui]at jP ⊢;have qB:=O jP;rw[jP]at c0 c9 Gu;clear hr kf l_ gu ui hh Sf jP;by_cases h0:r.part<0
 ·have HR:=O (show res=false by rw[gy.o,bf ab];rfl);clear gy;go_enter func64,ntmps64;go_wp2;go_ret;exact⟨by rw[HR.o];rfl,by rw[<-qB.o];exact lV.o⟩
 by_cases h4:r.part>=4
 ·have HR:=O (show res=false by rw[gy.o,bf (show¬r.part<4 from ab),kl,Bool.and_false]);clear gy;go_enter func64,ntmps64;go_wp2;go_ret;exact⟨by rw[HR.o];rfl,by rw[<-qB.o];exact lV.o⟩
 have Fj:=O (show res=(zI r.method.data.toList&&(decide (hs.length<=40)&&hs.all fun p=>zI p.1.data.toList))by rw[gy.o,bD (show 0<=r.part from ab),bD (show r.part<4 from ab)];rfl);clear gy;go_enter func64,ntmps64;go_wp2_with fail
 refine(IS.o _).mono ?_;rintro e w2⟨rfl,rfl⟩;cases him:zI r.method.data.toList
 ·have HR:=O (show res=false by rw[Fj.o,him];rfl);clear Fj;go_wp2;go_ret;exact⟨by rw[HR.o];rfl,by rw[<-qB.o];exact lV.o⟩
 by_cases FM:(hs.length:Int)>40
 ·have HR:=O (show res=false by rw[Fj.o,him,bf (show¬hs.length<=40 from ab)];rfl);clear Fj;go_wp2;go_ret;exact⟨by rw[HR.o];rfl,by rw[<-qB.o];exact lV.o⟩
 have Mf:=O (show res=hs.all (fun p=>zI p.1.data.toList)by rw[Fj.o,him,bD (show hs.length<=40 from ab)];rfl);clear Fj him kP kR h0 h4 hlen;go_wp2;rw[<-qB.o];go_loopw[28] (agz hs wb) (fun i _=>hs.length-(intOf i).toNat)
 case atStart=>exact⟨0,aW _,rfl,rfl,ae _ _⟩
 case round =>
  obtain⟨k,hk,rfl,iH,cR⟩:=hrel;have zM:=O iH;clear iH;by_cases fE:k<hs.length
  ·have qm:(k:Int)<(hs.length:Int):=ab;rcases(bM HH.o cR).2 with ⟨_,_,_,e,_⟩|⟨bk,o,c,hf,h1,h2,h3,h4c⟩
   ·have e2:=ar List.length e;rw[aj]at e2;have e3:hs.length=0:=e2;omega
   ·rw[aj]at hf h1;cases hf;unfold maxLen at h2;have dT:=O (List.getElem?_eq_getElem fE);have hc:=h4c k _ (by rw[List.getElem?_map,dT.o];rfl);have hd0:=hc 0 _ rfl;have AZ:=hc 1 _ rfl;simp only[Nat.add_zero]at hd0;have Sf:(hs[k]).1.size<100000:=(HZ.o _ (bQ fE)).1;generalize hs[k]=x at dT hd0 AZ Sf
    have IS2:=O (show∀U,aE 96 #[.string x.1] U fun e w'=>e=.returned (.bool (zI x.1.data.toList))/\U=w' from fun U=>BQ x.1 U ab);have BI:=O (cR.alloc (.cells #[.string x.1,.string x.2] 142));clear h4c hc;go_wp2_with fail
    refine(IS2.o _).mono ?_;rintro e w3⟨rfl,rfl⟩;cases hx:zI x.1.data.toList
    ·have HR:=O (show res=false by rw[Mf.o];exact xP dT.o hx);clear hx;go_wp2;go_ret;exact⟨by rw[HR.o];rfl,lV.o.trans BI.o⟩
    ·have hn:=O (uh dT.o zM.o hx);clear hx;go_wp2;go_roundw
     case rel=>exact⟨k+1,ab,bh,hn.o,BI.o⟩
     case measure=>simp[intOf];omega
  ·have qm:¬(k:Int)<(hs.length:Int):=ab;have HR:=O (show res=true by rw[Mf.o];have h:=zM.o;rwa [aG ab]at h);go_wp2;go_ret;exact⟨by rw[HR.o];rfl,lV.o.trans cR⟩
theorem P7(p q:ep)(w:World):(binOp .eql 137 (.agg p.cells.toArray) (.agg q.cells.toArray)).run prog w=.ok (.bool (p.kM q)) w:=by
 obtain⟨⟨a,b,c⟩,⟨d,e,f⟩,g,i,j,k,l,m⟩:=p;obtain⟨⟨a',b',c'⟩,⟨d',e',f'⟩,g',i',j',k',l',m'⟩:=q;unfold ep.cells;go_simp;simp only[show∀(P:Prop) [Decidable P] (W:World) (b:Bool),(if P then(Result.ok (Value.bool b) W:Result Value)else .ok (.bool false) W)=.ok (.bool (decide P&&b)) W from fun P _ W b=>by by_cases h:P<;>simp[h]]
 congr 2
 rw[eW];simp only[ep.kM,gz.kM,cF,dM,dP,and_assoc,jf]
def uq(w:World)(b o:Nat)(p:ep):Prop :=
 w.cell? ⟨b,o,none⟩=some (.bool p.cG.aD)/\w.cell? ⟨b,o+1,none⟩=some (.string p.cG.host)/\w.cell? ⟨b,o+2,none⟩=some (.int .i64 p.cG.port)/\w.cell? ⟨b,o+3,none⟩=some (.bool p.o.aD)/\w.cell? ⟨b,o+4,none⟩=some (.string p.o.host)/\w.cell? ⟨b,o+5,none⟩=some (.int .i64 p.o.port)/\w.cell? ⟨b,o+6,none⟩=some (.string p.path)/\w.cell? ⟨b,o+7,none⟩=some (.string p.query)/\w.cell? ⟨b,o+8,none⟩=some (.bool p.fq)/\w.cell? ⟨b,o+9,none⟩=some (.string p.method)/\w.cell? ⟨b,o+10,none⟩=some (.string p.head)/\w.cell? ⟨b,o+11,none⟩=some (.int .i64 p.pC)
theorem uq.of{o:Nat}(h:∀(i:Nat) u,p.cells[i]?=some u->w.cell? ⟨b,o+i,none⟩=some u):uq w b o p :=
 ⟨h 0 _ rfl,h 1 _ rfl,h 2 _ rfl,h 3 _ rfl,h 4 _ rfl,h 5 _ rfl,h 6 _ rfl,h 7 _ rfl,h 8 _ rfl,h 9 _ rfl,h 10 _ rfl,h 11 _ rfl⟩
theorem uq.eK(h:w.heap[b]?=some (.cells p.cells.toArray 137 (0,0))):uq w b 0 p :=
 uq.of fun i u hu=>by simp only[World.cell?,h];simpa using hu
theorem uB.lie{a:fi}{ps:List ep}(h:uB w (.slice a n c) ps)(hne:ps≠ []) :
  ∃bk of,a=some ⟨bk,of,none⟩/\n=ps.length/\n<=c/\n<=maxLen/\bk<w.heap.size/\∀(j:Nat) q,ps[j]?=some q->uq w bk (of+j*12) q:=by
 rcases h.2 with ⟨_,_,_,e,_⟩|⟨bk,of,c',hf,g1,g2,g3,g4⟩
 ·exact absurd (by simpa using e) hne
 ·cases hf;rw[aj]at g1;exact⟨bk,of,rfl,aS,by simpa using g1,by rw[aj];have h1:ps.length<=c:=g1;exact aH h1 g2,g3,fun j q hq=>uq.of (g4 j q.cells (by rw[List.getElem?_map,hq];rfl))⟩
def agE(w:World)(n:Nat)(f:Nat->Bool)(i:Value)(wr:World):Prop:=∃k:Nat,k<=n/\i=.int .i64 k/\f k=true/\Fr aX w wr
theorem T5(v:Value)(ps:List ep)(p:ep)(w:World)(h:uB w v ps) :
  aE 198 #[v,.agg p.cells.toArray] w fun e w'=>e=.returned (.int .i64 (lW (fun q=>p.kM q) ps 0))/\Fr aX w w':=by
 obtain⟨av,cv,hv⟩:=dR h;subst hv;rw[aj]at h ⊢;have HQ:=O (P7 p);obtain⟨w1,oM⟩:∃w1,w1=w.alloc (.cells p.cells.toArray 137):=⟨_,rfl⟩;have dw:Fr aX w w1:=by rw[oM];exact(ae _ _).alloc _
 have l_:w1.heap[w.heap.size]?=some (.cells p.cells.toArray 137 (0,0)):=by rw[oM];exact aC _ _
 have HP:=O (show∀U,Fr aX w1 U->uq U w.heap.size 0 p from fun U hU=>uq.eK (hU.keep l_ id));have HL:=O (show∀U,Fr aX w1 U->uB U (.slice av ps.length cv) ps from fun U hU=>bM h (dw.trans hU));have lA:=O dw;have Pd:=O oM;clear h dw l_;unfold ep.cells at oM HQ ⊢;go_enter func198,ntmps198;go_wp2;rw[<-oM];clear oM
 go_loopw[8] (agE w1 ps.length (fun k=>!(ps.take k).any (fun q=>p.kM q))) (fun i _=>ps.length-(intOf i).toNat)
 case atStart=>exact⟨0,aW _,rfl,rfl,ae _ _⟩
 case round =>
  obtain⟨k,hk,rfl,hn,cR⟩:=hrel;have HN:=O (show(ps.take k).any (fun q=>p.kM q)=false by simpa using hn);clear hn;by_cases fE:k<ps.length
  ·have qm:(k:Int)<(ps.length:Int):=ab;have T6:(0:Int)<=(k:Int):=ab;obtain⟨bk,of,rfl,g1,g2,g3,g4,g5⟩:=uB.lie (HL.o wr cR) (by intro e;rw[e]at fE;cases fE);unfold maxLen at g3;have dT:=O (List.getElem?_eq_getElem fE);generalize ps[k]=q at dT;obtain⟨c0,c1,c2,c3,c4,c5,c6,c7,c8,c9,Gu,TB⟩:=g5 k q dT.o;obtain⟨d0,d1,d2,d3,d4,d5,d6,d7,d8,d9,d10,d11⟩:=HP.o wr cR
   simp only[bw]at d0 d1 d2 d3 d4 d5 d6 d7 d8 d9 d10 d11;have heq:=HQ.o q;unfold ep.cells at heq;have hfd:=cR.drewN;clear g1 g5;cases he:p.kM q
   ·have p9:=O (any_take_succ dT.o HN.o he);rw[he]at heq;clear he;go_wp2;go_quiet (fail);go_wp2;go_roundw
    case rel=>exact⟨k+1,ab,bh,by show(!(ps.take (k+1)).any (fun q=>p.kM q))=true;rw[p9.o];rfl,cR.drewN _⟩
    case measure=>simp[intOf];omega
   ·have fl:=O (pR (i:=0) dT.o he HN.o);rw[he]at heq;clear he;go_wp2;go_quiet (fail);go_wp2;go_ret;rw[fl.o,bw];exact⟨rfl,lA.o.trans (cR.drewN _)⟩
  ·have qm:¬(k:Int)<(ps.length:Int):=ab;have fl:=O (show lW (fun q=>p.kM q) ps 0= -1 from kz (by have h:=HN.o;rw[aG ab]at h;exact h));go_wp2;go_ret;rw[fl.o];exact⟨rfl,lA.o.trans cR⟩
theorem JZ(v:Value)(ps:List ep)(p:ep)(w:World)(h:uB w v ps) :
  aE 140 #[v,.agg p.cells.toArray] w fun e w'=>e=.returned (.bool (ps.any (fun q=>p.kM q)))/\Fr aX w w':=by
 have hb:=O (tu (fun q=>p.kM q) ps 0);have dw:Fr aX w (w.alloc (.cells p.cells.toArray 137)):=(ae _ _).alloc _;have l_:(w.alloc (.cells p.cells.toArray 137)).heap[w.heap.size]?=some (.cells p.cells.toArray 137 (0,0)):=aC _ _;have HC:=O (T5 v ps p _ (bM h dw));obtain⟨av,cv,hv⟩:=dR h;subst hv;rw[aj]at HC ⊢;have lA:=O dw;have G:=O l_;clear h dw l_;unfold ep.cells at *
 go_enter func140,ntmps140;go_wp2_with (first|((with_reducible refine dt 6 ?_);refine aJ rfl 137 (.tmp 3) rfl w.heap.size rfl _ _ (0,0) _ G.o underlying137 rfl af ?_)|fail)
 refine HC.o.mono ?_;rintro e w2⟨rfl,dF⟩;go_wp2;go_ret;exact⟨fS hb.o,lA.o.trans dF⟩
def Ad(w:World)(b:Nat)(r:fW Value):Prop :=
 w.cell? ⟨b,0,none⟩=some (.int .i64 r.part)/\w.cell? ⟨b,1,none⟩=some (.bool r.cG.aD)/\w.cell? ⟨b,2,none⟩=some (.string r.cG.host)/\w.cell? ⟨b,3,none⟩=some (.int .i64 r.cG.port)/\w.cell? ⟨b,4,none⟩=some (.bool r.o.aD)/\w.cell? ⟨b,5,none⟩=some (.string r.o.host)/\w.cell? ⟨b,6,none⟩=some (.int .i64 r.o.port)/\w.cell? ⟨b,7,none⟩=some (.string r.path)/\w.cell? ⟨b,8,none⟩=some (.string r.query)/\w.cell? ⟨b,9,none⟩=some (.string r.method)/\w.cell? ⟨b,10,none⟩=some r.ef/\w.cell? ⟨b,11,none⟩=some (.bool r.fq)/\w.cell? ⟨b,12,none⟩=some (.string r.body)
theorem Ad.eK{r:fW Value}(h:w.heap[b]?=some (.cells r.cells.toArray 29 (0,0))):Ad w b r:=by
 have hc:∀i u,r.cells[i]?=some u->w.cell? ⟨b,i,none⟩=some u:=fun i u hu=>by simp only[World.cell?,h];simpa using hu
 exact⟨hc 0 _ rfl,hc 1 _ rfl,hc 2 _ rfl,hc 3 _ rfl,hc 4 _ rfl,hc 5 _ rfl,hc 6 _ rfl,hc 7 _ rfl,hc 8 _ rfl,hc 9 _ rfl,hc 10 _ rfl,hc 11 _ rfl,hc 12 _ rfl⟩
theorem Qv(ps:List ep)(p:ep):(pO ps p).length<=ps.length+1:=by
 unfold pO;split
 ·omega
 ·simp
theorem xW:∀(l ps:List ep),(l.foldl pO ps).length<=ps.length+l.length
 |[],ps=>aS
 |p :: l,ps=>by
  rw[List.foldl_cons];have h1:=xW l (pO ps p);have h2:=Qv ps p;rw[List.length_cons];omega
theorem Ds{n:Bs}{l:List Bs}(h:kI ps n=some l):l.length<=40:=by
 unfold kI at h;split at h
 ·cases h
 ·split at h
  ·cases h
  ·cases h;omega
theorem Qw{r:qE}{t:Bs}{now:Int}{m:List ep}(h:tV r t ps now=.ok m):m.length<=81:=by
 unfold tV at h;cases e1:kI ps IM with
 |none=>rw[e1]at h;cases h
 |some ms =>
  cases e2:kI ps xz with
  |none=>rw[e1,e2]at h;cases h
  |some hs =>
   rw[e1,e2]at h;simp only at h;split at h
   ·cases h
   ·split at h
    ·cases h
    ·cases h;have h1:=Ds e1;have h2:=Ds e2;unfold qE.bZ;refine aH (xW _ _) ?_;rw[aj];have h3:=xW ((r.methods ms).map fun m=>r.Ca (now+mP ps) m (bA [])) [];rw[aj]at h3;have h4:(r.methods ms).length<=40:=by
      unfold qE.methods;split
      ·simp
      ·rw[aj];exact h1
     simp only[List.length_nil,bw]at h3;omega
def fW.KF{D:Type}(r:fW D):Prop:=r.method.size<=140737488351232/\r.path.size<=140737488351232/\r.query.size<=140737488351232/\r.o.host.size<=140737488351232/\r.cG.host.size<=140737488351232
theorem EG:∀(l:List (jn×Bs)) (p:jn×Bs),wS (l++[p])=wS l++((if l.isEmpty then []else [44,32])++OT p.1 p.2)
 |[],p=>rfl
 |[a],p=>by simp[wS]
 |a :: b :: l,p=>by
  have ih:=EG (b :: l) p;simp only[List.cons_append,wS]at ih ⊢;rw[ih];simp
abbrev Item:=Bs×Bs×Bool
def Item.par(i:Item):jn×Bs:=((i.1,i.2.1),zP i.2.2 i.2.1)
def Ge(l:List (jn×Bs)):Bs:=aa'++32 :: wS l
def vB(l:List Item):Bs:=Ge (l.map Item.par)
def xD(l:List Item):Bool:=l.any fun i=>zQ i.2.2 i.2.1
theorem O8(p:jn×Bs)(l:List (jn×Bs)):0<(wS (p :: l)).length:=by
 cases l with
 |nil=>simp[wS,OT];omega
 |cons q l=>simp[wS,OT];omega
theorem I9(l:List Item)(nm v:Bs)(q:Bool):qb (vB l) nm (zP q v)=vB (l++[(nm,v,q)]):=by
 unfold qb vB;rw[bI];show _=Ge (l.map Item.par++[((nm,v),zP q v)]);unfold Ge;rw[EG];cases l with
 |nil=>rfl
 |cons a l =>
  have h:=O8 a.par (l.map Item.par);rw[aB (by simp[aa']at h ⊢; omega)];simp[OT]
theorem O9(l:List Item)(nm v:Bs)(q:Bool):(xD l||zQ q v)=xD (l++[(nm,v,q)]):=by unfold xD;simp
theorem Ss(q:Bool)(v:Bs):(zP q v).length<=2*v.length+2:=by
 have:=I8 v;unfold zP;split
 ·split
  ·exact this
  ·simp
 ·omega
theorem Su(l nm x:Bs):(qb l nm x).length<=l.length+nm.length+x.length+3:=by
 unfold qb;split<;>simp<;>omega
def vC(user aO bC uri OU name:Bs):List Item:=[(NC,user,true),(vh,aO,true),(vn,bC,true),(WG,uri,true),(ND,OU,true),(yn,name,false)]
def Cn(eZ count:Bs):List Item:=if eZ.isEmpty then []else [(Iu,eZ,false),(nNc,count,false)]
def Sv(eZ:Bs)(cy:Bool)(bz:Bs):List Item:=if !eZ.isEmpty||cy then [(Bw,bz,true)]else []
def Co(cj:Bs):List Item:=if cj.isEmpty then []else [(lO,cj,true)]
def iK.items(d:iK):List Item:=vC d.user d.aO d.bC d.uri d.OU (oW d.scheme d.cy)++(Cn d.eZ d.count++(Sv d.eZ d.cy d.bz++Co d.cj))
theorem iK.WZ{d:iK}(h:xD d.items=false):d.fair=true:=by
 unfold iK.items vC Cn Sv Co xD at h;unfold iK.fair;simp only[List.any_append,List.any_cons,List.any_nil,Bool.or_false,eA,zQ,Bool.true_and,kl,Bool.not_eq_false']at h;obtain⟨⟨h1,h2,h3,h4,h5⟩,_,h6,h7⟩:=h;rw[h1,h2,h3,h4,h5];simp only[Bool.true_and];have g6:(!(!d.eZ.isEmpty||d.cy)||nJ d.bz)=true:=by
  cases hc:(!d.eZ.isEmpty||d.cy)
  ·rfl
  ·rw[hc]at h6;simpa[zQ]using h6
 have g7:(d.cj.isEmpty||nJ d.cj)=true:=by
  cases hc:d.cj.isEmpty
  ·rw[hc]at h7;simpa[zQ]using h7
  ·rfl
 rw[g6,g7];rfl
theorem iK.W7(d:iK):xD d.items=!d.fair:=by
 unfold iK.items vC Cn Sv Co xD iK.fair;cases d.eZ.isEmpty<;>cases d.cy<;>cases d.cj.isEmpty<;>simp[zQ]
theorem Cp{n v:Bs}(h:nJ v=true):Item.par (n,v,true)=qP n v:=by unfold Item.par qP zP;simp[h]
theorem ae3(n v:Bs):Item.par (n,v,false)=pP n v:=rfl
theorem iK.W_{d:iK}(h:d.fair=true):vB d.items=d.text:=by
 unfold iK.fair at h;simp only[cF]at h;obtain⟨f1,f2,f3,f4,f5,f6,f7⟩:=h;unfold vB Ge iK.text
 congr 2
 have e1:(vC d.user d.aO d.bC d.uri d.OU (oW d.scheme d.cy)).map Item.par=d.head:=by
  unfold vC iK.head;simp only[cA,du,Cp f1,Cp f2,Cp f3,Cp f4,Cp f5,ae3]
 have e2:(Cn d.eZ d.count).map Item.par=d.two:=by
  unfold Cn iK.two;split<;>rfl
 have e3:(Sv d.eZ d.cy d.bz).map Item.par=d.cn:=by
  unfold Sv iK.cn;cases hc:(!d.eZ.isEmpty||d.cy)
  ·rfl
  ·rw[hc]at f6;simp only[d_,cA,du,Cp (show nJ d.bz=true by simpa using f6)]
 have e4:(Co d.cj).map Item.par=d.op:=by
  unfold Co iK.op;cases hc:d.cj.isEmpty
  ·rw[hc]at f7;simp only[cJ,eT,cA,du,Cp (show nJ d.cj=true by simpa using f7)]
  ·rfl
 unfold iK.items iK.yx;rw[bI,bI,bI,e1,e2,e3,e4]
theorem I_(fI:Int)(aO bC cj eZ:ai)(cy dr:Bool)(dom:Value)(w:World) :
  aE 110 #[.agg #[.int .i64 fI,.string aO,.string bC,.string cj,.bool cy,.string eZ,.bool dr,dom]] w fun e w'=>e=.returned (.string (bA (oW fI cy)))/\Fr aX w w':=by
 by_cases h3:fI=3
 ·cases cy with
  |false =>
   have E:bA (oW fI false)=⟨#[83,72,65,45,50,53,54]⟩:=by unfold oW;rw[aB h3];rfl
   have HE:=O E;clear E;go_enter func110,ntmps110;go_wp2;go_ret;exact⟨by rw[HE.o];rfl,(ae aX w).alloc _⟩
  |true =>
   have E:bA (oW fI true)=⟨#[83,72,65,45,50,53,54,45,115,101,115,115]⟩:=by unfold oW;rw[aB h3];rfl
   have HE:=O E;clear E;go_enter func110,ntmps110;go_wp2;go_ret;exact⟨by rw[HE.o];rfl,(ae aX w).alloc _⟩
 ·cases cy with
  |false =>
   have E:bA (oW fI false)=⟨#[77,68,53]⟩:=by unfold oW;rw[ay h3];rfl
   have HE:=O E;clear E;go_enter func110,ntmps110;go_wp2;go_ret;exact⟨by rw[HE.o];rfl,(ae aX w).alloc _⟩
  |true =>
   have E:bA (oW fI true)=⟨#[77,68,53,45,115,101,115,115]⟩:=by unfold oW;rw[ay h3];rfl
   have HE:=O E;clear E;go_enter func110,ntmps110;go_wp2;go_ret;exact⟨by rw[HE.o];rfl,(ae aX w).alloc _⟩
abbrev jD := @iK.W7
abbrev jE := @iK.WZ
abbrev jF := @iK.W_
theorem E7:(prog.info? 129).map (fun i=>(i.zero,i.size,i.bytes))=some (some (.agg vL),13,168):=af
def ab1(base:Nat)(w:World)(b:Nat)(o:Nat)(g:bL bG):Prop :=
 ∃r:bL Value,(∀u∈r.cells,u.oneCell'=true)/\r.Reads (df base w) g/\∀(i:Nat) u,r.cells[i]?=some u->w.cell? ⟨b,o+i,none⟩=some u
theorem jY.at{base:Nat}{w:World}{v:Value}{gs:List (bL bG)}(h:jY base w v gs){k:Nat}(hk:k<gs.length) :
  ∃b c,v=.slice (some ⟨b,0,none⟩) gs.length c/\gs.length<=maxLen/\ab1 base w b (k*13) gs[k]:=by
 obtain⟨rs,h1,h2⟩:=h;have hl:=h2.len;obtain⟨x,hx⟩:∃x,rs[k]?=some x:=⟨_,List.getElem?_eq_getElem ab⟩;obtain⟨g,hg,hr⟩:=h2.get hx;rw[List.getElem?_eq_getElem hk]at hg;obtain rfl:=jQ hg;have dT:=h1.at;rcases h1.2.2 with ⟨_,hn⟩|⟨bk,cap,cur,hv,_⟩
 ·rw[aj]at hn;omega
 rcases dT.2 with ⟨_,_,e1,e,_⟩|⟨bk',o,c,ua,q1,q2,q3,q4⟩
 ·simp at e;rw[e]at hl;simp at hl;omega
 ·rw[hv]at ua;cases ua;rw[aj]at q1;refine⟨bk,cap,by rw[hv,aj,hl],ab,x,(h1.1 x.cells (cz.2 ⟨x,cL hx,rfl⟩)).2,hr,?_⟩;intro i u hu;have:=q4 k x.cells (by rw[List.getElem?_map,hx];rfl) i u hu;rw[bw]at this;exact this
def Tv(base:Nat)(w:World)(gs:List (bL bG))(v:Value)(w':World):Prop:=jY base w' v gs/\∀k,v.ownBlock=some k->w.heap.size<=k
def PI(base:Nat)(w:World)(gs:List (bL bG))(e:Ending)(w':World):Prop :=
 ∃v,e=.returned v/\Tv base w gs v w'/\Fr aX w w'
def af3(base:Nat)(w:World)(gs:List (bL bG))(v i:Value)(wr:World):Prop :=
 ∃(k:Nat) (rs:List (bL Value)),k<=gs.length/\i=.int .i64 k/\OwnRows w.heap.size 129 13 wr v (rs.map bL.cells)/\ld (bL.Reads (df base wr)) rs (gs.take k)/\Fr aX w wr
def bL.mK(r:bL Value)(d:Value):bL Value:={r with a:={r.a with dom:=d}}
theorem PJ(base:Nat)(w:World)(b:Nat)(gv wv:Value)(gs:List (aU bG))(ws:List (bL bG))(h:dC base w b gv wv gs ws)(LV:ws.length<68719476736) :
  aE 68 #[.pointer (some ⟨b,0,none⟩)] w (PI base w ws):=by
 have h0:=h.c1;obtain⟨av,cv,hv⟩:=h.waits.form;subst hv;have tK:=h.lt;have im:base<=w.heap.size:=by have:=h.low;omega
 go_enter func68,ntmps68;go_wp2;clear h0;go_loopw[3,11] (af3 base w ws) (fun _ i _=>ws.length-(intOf i).toNat)
 case atStart=>exact⟨0,[],aW _,rfl,dp _ _ _ _,.nil,ae _ _⟩
 case round =>
  obtain⟨k,rs,hk,rfl,cQ,vI,cR⟩:=hrel;by_cases fE:k<ws.length
  ·obtain⟨bk,c,dw,se,r,ec,hr,hcell⟩:=(h.dx cR).waits.at fE;cases dw;unfold maxLen at se;obtain⟨ad,cd,BF⟩:=hr.2.2.2.2.2.2.2.2.2.2.rd.form;obtain⟨x,hx⟩:∃x,x=r.cells:=⟨_,rfl⟩;have lI:x.length=13:=by rw[hx];rfl
   have iQ:=fun W=>run_storeCells_new (P:=prog) W 129 vL x (by rw[lI];rfl) (by rw[hx];exact ec);rw[<-hx]at hcell;have HX:=O hx;have KX:=O (zW lI);have ab2:x[12]?=some (.slice ad ws[k].a.dom.length cd):=by rw[hx, <-BF];rfl
   clear hx;obtain⟨av,cv,Tg⟩:=cQ.form;subst Tg;rw[aj,vI.len,aQ,dJ hk]at cQ ⊢;have ix:Fr aX wr (wr.alloc (.cells x.toArray 129)):=(ae aX wr).alloc _;have ZF:(wr.alloc (.cells x.toArray 129)).heap[wr.heap.size]?=some (.cells x.toArray 129 (0,0)):=aC _ _
   have ZY:(wr.alloc (.cells x.toArray 129)).cell? ⟨wr.heap.size,12,none⟩=some (.slice ad ws[k].a.dom.length cd):=by simp only[World.cell?,ZF];simpa using ab2
   have pN:=hr.mono (fun _ _ h=>h.dx ix);have xa:=pN.2.2.2.2.2.2.2.2.2.2;rw[BF]at xa;have CL:=O (rq base _ _ _ xa);go_wp2_with (first|((with_reducible refine dt 14 ?_);refine bu rfl 129 (.tmp 13) rfl bk (k*13) rfl x _ hcell underlying129 rfl KX.o ?_)|fail)
   have si:=O (cR.trans ix);have fy:=cQ.alloc (.cells x.toArray 129);have CN:=vI.mono (fun _ _ h=>h.mono (fun _ _ h=>h.dx ix));have jP:w.heap.size<=wr.heap.size:=cR.size;have alG:=cQ.lt;clear iQ hcell hr cQ vI cR xa ix;generalize wr.alloc (.cells x.toArray 129)=W2 at *
   refine CL.o.mono ?_;rintro e u1⟨a2,c2,rfl,A1,dw⟩;have sD:=dw.keep ZF id;have rf:=pN.mono (fun _ _ h=>h.dx dw);have fo:=fy.fr dw (fun _ _ h=>h);have CO:=CN.mono (fun _ _ h=>h.mono (fun _ _ h=>h.dx dw));have PF:=si.o.trans dw;have af4:u1.cell? ⟨wr.heap.size,12,none⟩=some (.slice ad ws[k].a.dom.length cd):=by simp only[World.cell?,sD];simpa using ab2
   have f12:u1.frozen? ⟨wr.heap.size,12,none⟩=false:=by simp[World.frozen?,sD]
   have jX:=cg sD 12 (.slice a2 ws[k].a.dom.length c2);have hye:x.toArray.setIfInBounds 12 (.slice a2 ws[k].a.dom.length c2)=(r.mK (.slice a2 ws[k].a.dom.length c2)).cells.toArray:=by rw[HX.o];rfl
   rw[hye]at jX;have ru:rJ base u1 (one wr.heap.size):=by
    rintro j rfl hj;exact⟨ab,fun c f e=>by rw[sD]at e;cases e⟩
   have kx:Fr (one wr.heap.size) u1 (u1.setCell ⟨wr.heap.size,12,none⟩ (.slice a2 ws[k].a.dom.length c2)):=(ae (one wr.heap.size) u1).setCell (p:=⟨wr.heap.size,12,none⟩) (fun _=>rfl) _;have zz:∀j,(Value.slice av k cv).ownBlock=some j->¬one wr.heap.size j:=by
    rintro j hj rfl;have:=alG _ hj;omega
   have fR:=PF.gI (p:=⟨wr.heap.size,12,none⟩) jP (.slice a2 ws[k].a.dom.length c2);have u0:(r.mK (.slice a2 ws[k].a.dom.length c2)).Reads (df base (u1.setCell ⟨wr.heap.size,12,none⟩ (.slice a2 ws[k].a.dom.length c2))) ws[k] :=
    ⟨rf.1,rf.2.1,rf.2.2.1,rf.2.2.2.1,rf.2.2.2.2.1,rf.2.2.2.2.2.1,rf.2.2.2.2.2.2.1,rf.2.2.2.2.2.2.2.1,rf.2.2.2.2.2.2.2.2.1,rf.2.2.2.2.2.2.2.2.2.1,A1.fr kx ru⟩
   have eV:=fo.fr kx zz;have Mb:=CO.mono (fun _ _ h=>h.mono (fun _ _ h=>h.fr kx ru));have CX:∀u∈(r.mK (.slice a2 ws[k].a.dom.length c2)).cells,u.oneCell'=true:=by
    intro u hu;simp only[bL.cells,bL.mK,bE,bU,dL]at hu;rcases hu with rfl|rfl|rfl|rfl|rfl|rfl|rfl|rfl|rfl|rfl|rfl|rfl|rfl<;>rfl
   obtain⟨y,hy⟩:∃y,y=(r.mK (.slice a2 ws[k].a.dom.length c2)).cells:=⟨_,rfl⟩;have Ew:y.length=13:=by rw[hy];rfl
   rw[<-hy]at CX jX;have HY:=O hy;have qe:=O jX;have HYI:=O (zW Ew);have Gm:=O eV;have EW:=vw y vL (by rw[Ew];rfl);have hbw:w.heap.size<=(u1.setCell ⟨wr.heap.size,12,none⟩ (.slice a2 ws[k].a.dom.length c2)).heap.size:=fR.size;have ZZ:=O (show(u1.setCell ⟨wr.heap.size,12,none⟩ (.slice a2 ws[k].a.dom.length c2)).heap.size=u1.heap.size by simp[World.setCell]);have arO:w.heap.size<=u1.heap.size:=PF.size
   have uM:=Mb.len;rw[aQ,dJ hk]at uM;have LN:(rs.map bL.cells).length<68719476736:=by rw[aj,uM];omega
   have V0:=O u0;have af6:=O Mb;have alH:=O fR;clear uM rf pN fy fo CN CO ZF sD ru kx zz A1 hye hy ab2 ZY CL eV Mb u0 fR PF dw jX si BF
   go_wp2_with (first|((with_reducible refine dt 22 ?_);refine aJ rfl 129 (.tmp 5) rfl wr.heap.size rfl _ y.toArray (0,0) _ qe.o underlying129 rfl (by rw[bd];exact HYI.o) ?_)|(at_builtin;refine nA rfl _ _ 116 129 rfl 13 168 (.agg vL) underlying116 E7 rfl ag ag w.heap.size (.slice av k cv) (rs.map bL.cells) rfl (Gm.o.alloc _) u1.heap.size 1 y rfl Ew CX (fun i u hi=>by rw[<-ZZ.o,World.cell?_alloc_mark];simpa using hi) LN bH ?_;intro v' w4 eV Ba))
   have DM:=Fr.NF _ Ba;have mJ:=Gm.o.off (base:=base) im ag;rw[HY.o]at eV;refine⟨⟨k+1,rs++[r.mK (.slice a2 ws[k].a.dom.length c2)],ab,bh,by rw[bI];exact eV,?_,alH.o.step DM (fun j hj hS=>by have h2:=Gm.o.block j hS;omega)⟩,by simp[intOf];omega⟩;rw[dU (List.getElem?_eq_getElem fE)];exact(af6.o.mono (fun _ _ h=>h.mono (fun _ _ h=>h.fr DM mJ))).app (.cons (V0.o.mono (fun _ _ h=>h.fr DM mJ)) .nil)
  ·rw[aG ab]at vI;obtain⟨av,cv,Tg⟩:=cQ.form;subst Tg;go_wp2;go_ret;exact⟨_,rfl,⟨⟨rs,cQ.up im,vI⟩,cQ.block⟩,cR⟩
def JD(base:Nat)(w:World)(gs:List (aU bG))(ws:List (bL bG))(e:Ending)(w':World):Prop :=
 ∃b gv wv,e=.returned (.pointer (some ⟨b,0,none⟩))/\dC base w' b gv wv gs ws/\Fr aX w w'/\∀k,dk b gv wv k->w.heap.size<=k
theorem Tw(base:Nat)(w:World)(b:Nat)(gv wv:Value)(gs:List (aU bG))(ws:List (bL bG))(h:dC base w b gv wv gs ws)(LV:gs.length<68719476736)(DJ:ws.length<68719476736) :
  aE 39 #[.pointer (some ⟨b,0,none⟩)] w (JD base w gs ws):=by
 have tK:=h.lt;have kO:=h.low;go_enter func39,ntmps39;go_wp2_with fail
 refine(LU base w b gv wv gs ws h LV).mono ?_;intro e u1 hp;obtain⟨v1,rfl,⟨Il,Hm⟩,dw⟩:=hp;go_wp2_with fail
 refine(PJ base u1 b gv wv gs ws (h.dx dw) DJ).mono ?_;intro e u2 hp;obtain⟨v2,rfl,⟨yh,BD⟩,dF⟩:=hp;obtain⟨a1,c1,Hd⟩:=Il.form;obtain⟨a2,c2,hv2⟩:=yh.form;subst Hd hv2;have A1:=dw.size;have KQ:=dF.size;have ix:Fr aX u2 (u2.alloc (.cells #[.slice a1 gs.length c1,.slice a2 ws.length c2] 118)):=(ae aX u2).alloc _
 have HB:=O (show dC base (u2.alloc (.cells #[.slice a1 gs.length c1,.slice a2 ws.length c2] 118)) u2.heap.size (.slice a1 gs.length c1) (.slice a2 ws.length c2) gs ws from
  ⟨ab,aC _ _,(Il.fr dF (mG _ _) (fun _ _ h=>h)).fr ix (mG _ _) (fun _ _ h=>h),yh.fr ix (mG _ _) (fun _ _ h=>h)⟩)
 have HF:=O ((dw.trans dF).trans ix);have HN:=O (show∀k,dk u2.heap.size (.slice a1 gs.length c1) (.slice a2 ws.length c2) k->w.heap.size<=k from fun k hk=>by
  rcases hk with rfl|hk|hk
  ·omega
  ·exact Hm k hk
  ·have:=BD k hk;omega)
 clear Il yh Hm BD ix h;go_wp2;go_ret;exact⟨_,_,_,rfl,HB.o,HF.o,HN.o⟩
theorem df.alL(base:Nat)(w:World)(x:ai):df base (w.alloc (.cells #[.string x] 9)) (.slice (some ⟨w.heap.size,0,none⟩) 1 1) [x]:=by
 refine⟨Or.inr ⟨w.heap.size,0,1,rfl,az _,by simp[maxLen],aS,fun j z hj=>?_⟩,fun k hk _=>?_,aS⟩
 ·rw[bw,World.cell?_alloc_mark]
  match j,hj with
  |0,hj=>simp at hj;subst hj;rfl
 ·simp[Value.ownBlock]at hk;subst hk;exact⟨aS,Or.inr ⟨_,_,aC _ _⟩⟩
