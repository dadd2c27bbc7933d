/- Lemmas for the law's walk. -/
import Derived.Test.YtnckmcnffadjoaaGreatDoorPk10
set_option maxRecDepth 100000
set_option maxHeartbeats 16000000
set_option linter.unusedSimpArgs false
namespace Go.Proofs.YtnckmcnffadjoaaGreatDoor
open Go.Proofs.Tryz
open Go.RowKit
variable {base b k c i n:Nat} {w w':World} {e:TypeId} {v:Value} {xs:List nA} {S:dF} {s:aj} {p:ez} {ps:List jF}
def Yv(o:gG)(g:aQ bE):Bool:=g.o.lz o
def Oh(o:gG)(g:bK bE):Bool:=g.o.lz o
def QD(o:gG)(x:aZ):Bool:=(ahA x).lz o
theorem Oi(g:aQ Value)(o:gG)(bo:Nat)(w:World)(ho:w.heap[bo]?=some (.cells #[.bool o.aG,.string o.host,.int .i64 o.port] 32 (0,0))) :
  aB 143 #[.agg g.cells.toArray,.pointer (some ⟨bo,0,none⟩)] w fun e w'=>e=.returned (.bool (QD o g.cells))/\Fr aS w w':=by
 have hC:=O (show QD o g.cells=g.o.lz o from rfl);have heq:=jG g.o o;rw[hC.o];unfold aQ.cells;have gX:Fr aS w _:=(ae aS w).alloc (.cells #[.bool g.o.aG,.string g.o.host,.int .i64 g.o.port,.bool g.proxy,.string g.user,.string g.pass,.int .i64 g.a.scheme,.string g.a.aM,.string g.a.bu,.string g.a.cz,.bool g.a.cD,.string g.a.eJ,.bool g.a.cR,g.a.dom,.int .i64 g.count,g.paths] 114)
 have rk:=O (gX.keep ho id);clear hC ho;go_enter func143,ntmps143;go_wp2_with (first|((with_reducible refine dr 6 ?_);refine aI rfl 32 (.tmp 1) rfl bo rfl _ _ (0,0) _ rk.o underlying32 rfl af ?_)|fail)
 go_ret;exact⟨rfl,gX⟩
theorem Oj(g:bK Value)(o:gG)(bo:Nat)(w:World)(ho:w.heap[bo]?=some (.cells #[.bool o.aG,.string o.host,.int .i64 o.port] 32 (0,0))) :
  aB 145 #[.agg g.cells.toArray,.pointer (some ⟨bo,0,none⟩)] w fun e w'=>e=.returned (.bool (QD o g.cells))/\Fr aS w w':=by
 have hC:=O (show QD o g.cells=g.o.lz o from rfl);have heq:=jG g.o o;rw[hC.o];unfold bK.cells;have gX:Fr aS w _:=(ae aS w).alloc (.cells #[.bool g.o.aG,.string g.o.host,.int .i64 g.o.port,.bool g.proxy,.string g.path,.int .i64 g.a.scheme,.string g.a.aM,.string g.a.bu,.string g.a.cz,.bool g.a.cD,.string g.a.eJ,.bool g.a.cR,g.a.dom] 133);have rk:=O (gX.keep ho id);clear hC ho
 go_enter func145,ntmps145;go_wp2_with (first|((with_reducible refine dr 6 ?_);refine aI rfl 32 (.tmp 1) rfl bo rfl _ _ (0,0) _ rk.o underlying32 rfl af ?_)|fail)
 go_ret;exact⟨rfl,gX⟩
theorem Ep(S:dF)(w:World)(o:gG)(bo:Nat)(rs:List (aQ Value))
  (ho:w.heap[bo]?=some (.cells #[.bool o.aG,.string o.host,.int .i64 o.port] 32 (0,0)))(h1:¬S bo) :
  gT S w 143 #[.pointer (some ⟨bo,0,none⟩)] (QD o) (rs.map aQ.cells):=by
 intro x hx u hu;obtain⟨r,hr0,rfl⟩:=bZ.1 hx;exact Oi r o bo u (hu.keep ho h1)
theorem Er(S:dF)(w:World)(o:gG)(bo:Nat)(rs:List (bK Value))
  (ho:w.heap[bo]?=some (.cells #[.bool o.aG,.string o.host,.int .i64 o.port] 32 (0,0)))(h1:¬S bo) :
  gT S w 145 #[.pointer (some ⟨bo,0,none⟩)] (QD o) (rs.map bK.cells):=by
 intro x hx u hu;obtain⟨r,hr0,rfl⟩:=bZ.1 hx;exact Oj r o bo u (hu.keep ho h1)
theorem R7{r:aQ Value}{g:aQ bE}(h:aQ.Reads (dx base w) r g)(o:gG):QD o r.cells=Yv o g:=by
 unfold Yv;rw[<-h.1];rfl
theorem Ol{r:bK Value}{g:bK bE}(h:bK.Reads (dx base w) r g)(o:gG):QD o r.cells=Oh o g:=by
 unfold Oh;rw[<-h.1];rfl
theorem ks.Ac{base:Nat}{w:World}{v:Value}{rs:List (bK Value)}{gs:List (bK bE)}{p:aZ->Bool}{q:bK bE->Bool}(h1:OwnRows base 133 13 w v ((rs.map bK.cells).filter (fun x=>!p x)))(h2:lq (bK.Reads (dx base w)) rs gs)
  (hpq:∀r g,bK.Reads (dx base w) r g->p r.cells=q g):ks base w v (gs.filter (fun g=>!q g))/\((rs.map bK.cells).filter (fun x=>!p x)).length=(gs.filter (fun g=>!q g)).length:=by
 have hb:lq (bK.Reads (dx base w)) (rs.filter (fun r=>!p r.cells)) (gs.filter (fun g=>!q g)):=h2.filter (fun r g h=>by rw[hpq r g h]);have he:(rs.map bK.cells).filter (fun x=>!p x)=(rs.filter (fun r=>!p r.cells)).map bK.cells:=by rw[List.filter_map];rfl
 refine⟨⟨_,by rw[he]at h1;exact h1,hb⟩,?_⟩;rw[he,ai,hb.len]
def xy(base:Nat)(w:World)(b:Nat)(gv wv:Value)(gs:List (aQ bE))(ws:List (bK bE))(o:gG)(e:Ending)(w':World):Prop :=
 e=.returned (.int .i64 ((gs.length:Int)-((gs.filter (fun g=>!Yv o g)).length:Int)))/\kM base w b gv wv (gs.filter (fun g=>!Yv o g)) (ws.filter (fun g=>!Oh o g)) w'
theorem G0(base:Nat)(w:World)(b:Nat)(gv wv:Value)(gs:List (aQ bE))(ws:List (bK bE))(o:gG)(h:dH base w b gv wv gs ws)(Oa:gs.length<34359738368) :
  aB 70 #[.pointer (some ⟨b,0,none⟩),.agg o.cells.toArray] w (xy base w b gv wv gs ws o):=by
 unfold gG.cells;obtain⟨av,cv,hv⟩:=h.bG.form;obtain⟨aw,cw,hw⟩:=h.waits.form;subst hv hw;have sS:=h.lt;have lD:=h.low;have pq:Fr aS w (w.alloc (.cells #[.bool o.aG,.string o.host,.int .i64 o.port] 32)):=(ae aS w).alloc _;have b0:(w.alloc (.cells #[.bool o.aG,.string o.host,.int .i64 o.port] 32)).heap[w.heap.size]?=some (.cells #[.bool o.aG,.string o.host,.int .i64 o.port] 32 (0,0)):=aC _ _
 have h1:=h.dm pq;have h0:=h1.c0;have B0:=O b0;clear b0;go_enter func70,ntmps70;go_wp2_with fail
 clear h0;generalize w.alloc (.cells _ 32)=W at *
 obtain⟨rs,Bi,rk⟩:=h1.bG;have hW:w.heap.size<=W.heap.size:=pq.size;have Yu:∀k,own (.slice av gs.length cv) k->k<w.heap.size:=fun k hk=>by
  obtain⟨c,e⟩:=h.ur hk;exact bq e
 have hkw:∀k,own (.slice aw ws.length cw) k->k<w.heap.size:=fun k hk=>by
  obtain⟨c,e⟩:=h.wW hk;exact bq e
 have hd:=O (ye base 143 #[.pointer (some ⟨w.heap.size,0,none⟩)] (QD o) _ _ W call143
  (Ep _ W o w.heap.size rs B0.o (fun hk=>by have:=Yu _ hk;omega)) Bi)
 refine hd.o.mono ?_;rintro e w2⟨a2,c2,rfl,yz,dE,fG⟩;have VB:=rk.mono (fun _ _ h=>h.mono (fun _ _ h=>h.fr dE (fun k hk hl=>h1.off k (Or.inr (Or.inl hk)) hl)));obtain⟨Yo,Z1⟩:=gy.Ac yz VB (fun r g h=>R7 h o);rw[Z1]at Yo fG ⊢;have kJ:=dE.keep h1.eN h1.gb;have eG:=h1.waits.fr dE (fun k hk hl=>h1.off k (Or.inr (Or.inl hk)) hl) (fun k hk hg=>h1.gw hg hk);have re:=nS lD kJ Yo eG
 have c0:w2.cell? ⟨b,0,none⟩=some (.slice av gs.length cv):=by simp[World.cell?,kJ]
 have f0:w2.frozen? ⟨b,0,none⟩=false:=by simp[World.frozen?,kJ]
 have ZO:Fr (dy b (.slice av gs.length cv) (.slice aw ws.length cw)) w w2:=gl (pq.mono (fun _ _ h=>absurd h id)) dE (fun k _ hk=>Or.inr (Or.inl hk));have HB:=ZO.setCell (p:=⟨b,0,none⟩) (fun _=>Or.inl rfl) (.slice a2 (gs.filter (fun g=>!Yv o g)).length c2);have aiP:=dE.keep B0.o (fun hk=>by have:=Yu _ hk;omega)
 have aev:(w2.setCell ⟨b,0,none⟩ (.slice a2 (gs.filter (fun g=>!Yv o g)).length c2)).heap[w.heap.size]?=_:=(tL ab 0 _).trans aiP;have lA:∀k,dy b (.slice a2 (gs.filter (fun g=>!Yv o g)).length c2) (.slice aw ws.length cw) k->dy b (.slice av gs.length cv) (.slice aw ws.length cw) k\/w.heap.size<=k:=by
  intro k hk;unfold dy at hk;rw[fG]at hk;exact Or.inl hk
 have Aa:(gs.filter (fun g=>!Yv o g)).length<=gs.length:=bW _ _;clear hd Bi rk VB yz kJ eG Yo h1 Yu Z1 ZO aiP;obtain⟨fs,kR⟩:∃fs,fs=gs.filter (fun g=>!Yv o g):=⟨_,rfl⟩;rw[<-kR]at re fG HB lA aev Aa ⊢;have VC:=O kR;have aiQ:=O re;have HBO:=O aev;have k1:=re.c1;clear kR re aev;go_wp2_with fail
 clear c0 f0 k1;generalize w2.setCell ⟨b,0,none⟩ (.slice a2 fs.length c2)=w3 at *
 have h3:=aiQ.o;obtain⟨rw',hq1,hq2⟩:=h3.waits;have hd:=O (FU base 145 #[.pointer (some ⟨w.heap.size,0,none⟩)] (QD o) _ _ w3 call145
  (Er _ w3 o w.heap.size rw' HBO.o (fun hk=>by have:=hkw _ hk;omega)) hq1)
 refine hd.o.mono ?_;rintro e w4⟨a4,c4,rfl,ZS,kS,fg⟩;have aiR:=hq2.mono (fun _ _ h=>h.mono (fun _ _ h=>h.fr kS (fun k hk hl=>h3.off k (Or.inr (Or.inr hk)) hl)));obtain⟨hwi,Fq⟩:=ks.Ac ZS aiR (fun r g h=>Ol h o);rw[Fq]at hwi fg ⊢;have vQ:=kS.keep h3.eN h3.wb;have CC:=h3.bG.fr kS (fun k hk hl=>h3.off k (Or.inr (Or.inr hk)) hl) (fun k hk hg=>h3.gw hk hg);have re:=dH.aei lD vQ CC hwi
 have c1:w4.cell? ⟨b,1,none⟩=some (.slice aw ws.length cw):=by simp[World.cell?,vQ]
 have f1:w4.frozen? ⟨b,1,none⟩=false:=by simp[World.frozen?,vQ]
 have Z6:=HB.step kS (fun k _ hk=>Or.inr (Or.inr hk));have HB5:=Z6.setCell (p:=⟨b,1,none⟩) (fun _=>Or.inl rfl) (.slice a4 (ws.filter (fun g=>!Oh o g)).length c4);have VK:∀k,dy b (.slice a2 fs.length c2) (.slice a4 (ws.filter (fun g=>!Oh o g)).length c4) k->dy b (.slice av gs.length cv) (.slice aw ws.length cw) k\/w.heap.size<=k:=by
  intro k hk;refine lA k ?_;unfold dy at hk ⊢;rw[fg]at hk;exact hk
 obtain⟨fw,Nk⟩:∃fw,fw=ws.filter (fun g=>!Oh o g):=⟨_,rfl⟩;rw[<-Nk]at re fg HB5 VK ⊢;have rU:=O Nk;have aiS:=O re;have aoB:=O HB5;have k0:=re.c0;clear Nk re hd hq1 hq2 aiR ZS hwi Fq vQ CC h3 HB Z6 HB5 lA aiQ HBO;go_wp2_with fail
 go_ret;unfold xy;rw[<-VC.o, <-rU.o];exact⟨rfl,_,_,aiS.o,aoB.o,VK⟩
theorem OwnRows.Ha{xs:dh}(h:OwnRows b e k w v xs){g:Nat}(hg:own v g):∃c,w.heap[g]?=some (.cells c e (0,0)):=by
 obtain⟨cap,cur,_,_,h2,_⟩:=h.open hg;exact⟨cur,h2⟩
structure eU (base:Nat) (w:World) (b:Nat) (v:Value) (ps:List ez):Prop where
 low:base<=b
 eN:w.heap[b]?=some (.cells #[v] 92 (0,0))
 rows:OwnRows base 155 12 w v (ps.map ez.cells)
def iH(b:Nat)(v:Value):dF:=fun k=>k=b\/own v k
def Ew(base:Nat)(w:World)(b:Nat)(v:Value)(ps:List ez)(w':World):Prop :=
 ∃v',eU base w' b v' ps/\Fr (iH b v) w w'/\∀k,iH b v' k->iH b v k\/w.heap.size<=k
section
variable {base : Nat} {w w' : World} {b : Nat} {v : Value} {ps : List ez}
theorem eU.lt(h:eU base w b v ps):b<w.heap.size:=bq h.eN
theorem eU.c0(h:eU base w b v ps):w.cell? ⟨b,0,none⟩=some v:=by simp[World.cell?,h.eN]
theorem eU.free(h:eU base w b v ps)(k:Nat):w.frozen? ⟨b,k,none⟩=false:=by simp[World.frozen?,h.eN]
theorem eU.form(h:eU base w b v ps):∃a c,v=.slice a ps.length c:=by
 obtain⟨a,c,e⟩:=h.rows.form;exact⟨a,c,by rw[e,ai]⟩
theorem eU.Ex(h:eU base w b v ps)(hk:own v k):k<w.heap.size:=h.rows.lt k hk
theorem eU.nb(h:eU base w b v ps):¬own v b:=fun hk=>by
 obtain⟨c,e⟩:=h.rows.Ha hk;rw[h.eN]at e;cases e
theorem eU.jq(h:eU base w b v ps)(hk:iH b v k):k<w.heap.size:=by
 rcases hk with rfl|hk
 ·exact h.lt
 ·exact h.Ex hk
theorem eU.fr(h:eU base w b v ps)(hf:Fr S w w')(hn:∀k,iH b v k->¬S k):eU base w' b v ps :=
 ⟨h.low,hf.keep h.eN (hn b (Or.inl rfl)),h.rows.fr hf (fun k hk=>hn k (Or.inr hk))⟩
theorem eU.dm(h:eU base w b v ps)(hf:Fr aS w w'):eU base w' b v ps:=h.fr hf (fun _ _ h=>h)
end
theorem eU.set{base:Nat}{w:World}{b:Nat}{v0 v:Value}{ps:List ez}(hl:base<=b)(hb:w.heap[b]?=some (.cells #[v0] 92 (0,0)))(hr:OwnRows base 155 12 w v (ps.map ez.cells)) :
  eU base (w.setCell ⟨b,0,none⟩ v) b v ps:=by
 have kR:Fr (one b) w (w.setCell ⟨b,0,none⟩ v):=(ae (one b) w).setCell (p:=⟨b,0,none⟩) (fun _=>rfl) _;refine⟨hl,cq hb 0 v,hr.fr kR ?_⟩;rintro k hk rfl;obtain⟨c,e⟩:=hr.Ha hk;rw[hb]at e;cases e
theorem LQ(p q:ez)(w:World):(binOp .eql 155 (.agg p.cells.toArray) (.agg q.cells.toArray)).run prog w=.ok (.bool (p.lz q)) w:=by
 obtain⟨⟨a,b,c⟩,⟨d,e,f⟩,g,i,j,k,l,m⟩:=p;obtain⟨⟨a',b',c'⟩,⟨d',e',f'⟩,g',i',j',k',l',m'⟩:=q;unfold ez.cells;go_simp;simp only[show∀(P:Prop) [Decidable P] (W:World) (b:Bool),(if P then(Result.ok (Value.bool b) W:Result Value)else .ok (.bool false) W)=.ok (.bool (decide P&&b)) W from fun P _ W b=>by by_cases h:P<;>simp[h]]
 congr 2
 rw[fj];simp only[ez.lz,gG.lz,cy,du,dX,and_assoc,iW]
abbrev pd := @eU.set
abbrev LZ:=aj×aj×Value
def Bx(r:LZ):aZ:=[.string r.1,.string r.2.1,r.2.2]
theorem V0{r:LZ}(h:r.2.2.oneCell'=true):∀u∈Bx r,u.oneCell'=true:=by
 intro u hu;simp only[Bx,bC,cA,dY]at hu;rcases hu with rfl|rfl|rfl
 ·rfl
 ·rfl
 ·exact h
def V1(base:Nat)(w:World)(r:LZ)(x:nA):Prop:=r.1=bA x.scheme/\r.2.1=bA x.token/\OwnRows base 171 2 w r.2.2 (x.params.map oG)
def lG(base:Nat)(w:World)(v:Value)(xs:List nA):Prop:=∃rs:List LZ,OwnRows base 198 3 w v (rs.map Bx)/\lq (V1 base w) rs xs
theorem lG.nil(base:Nat)(w:World):lG base w (.slice none 0 0) []:=⟨[],dB _ _ _ _,.nil⟩
theorem lG.form(h:lG base w v xs):∃a c,v=.slice a xs.length c:=by
 obtain⟨rs,h1,h2⟩:=h;obtain⟨a,c,e⟩:=h1.form;exact⟨a,c,by rw[e,ai,h2.len]⟩
def Jf(w:World)(S:dF):Prop:=∀k,S k->k<w.heap.size->∃cs t f,w.heap[k]?=some (.cells cs t f)/\t≠171/\t≠198
theorem Jf.none(w:World):Jf w aS:=fun _ h=>absurd h id
theorem Jf.cur(h:dz w c s i):Jf w (one c):=fun k hk _=>by
 obtain rfl:k=c:=hk;exact⟨_,_,_,h,ag,ag⟩
theorem lG.fr(h:lG base w v xs)(hf:Fr S w w')(hS:Jf w S):lG base w' v xs:=by
 obtain⟨rs,h1,h2⟩:=h;have key:∀ {k:Nat} {e:TypeId} {u:Value} {ys:dh},(e=171\/e=198)->OwnRows base e k w u ys->OwnRows base e k w' u ys:=by
  intro k e u ys he ho;refine ho.fr hf (fun b hb hs=>?_);obtain⟨cur,hc⟩:=ho.Ca hb;obtain⟨cs,t,f,Yy,n1,n2⟩:=hS b hs (bq hc);rw[hc]at Yy;cases Yy;rcases he with rfl|rfl
  ·exact n1 rfl
  ·exact n2 rfl
 exact⟨rs,key (Or.inr rfl) h1,h2.mono (fun r x hr=>⟨hr.1,hr.2.1,key (Or.inl rfl) hr.2.2⟩)⟩
def ai9(c b:Nat)(v:Value):dF:=fun k=>k=c\/k=b\/v.ownBlock=some k
def tB(base c b i:Nat)(s:aj)(xs:List nA)(v:Value)(w:World)(e:Ending)(w':World):Prop :=
 Fr (ai9 c b v) w w'/\match pA xs.length (s.data.toList.drop i)with
  | .error n=>∃p,xZ n p e w'
  | .ok q=>e=.returned .nilIface/\∃j v',j<=s.size/\dz w' c s j/\s.data.toList.drop j=q.2/\iR w' b c s v'/\lG base w' v' (xs++[q.1])
theorem tB.bad{p:Nat}{e:Ending}(h:pA xs.length (s.data.toList.drop i)=.error n)(hf:Fr (one c) w w')(he:xZ n p e w'):tB base c b i s xs v w e w':=by
 refine⟨hf.mono (fun k _ e=>Or.inl e),?_⟩;rw[h];exact⟨p,he⟩
def aeF(c b X i n:Nat)(s:aj)(v:Value)(W:Bs)(w wx:World):Prop :=
 ∃tok ps pv j,j<=s.size/\dz wx c s j/\iR wx b c s v/\kU wx X (bA W) (bA tok) pv/\OwnRows w.heap.size 171 2 wx pv (ps.map oG)/\Fr (one c) w wx /\
  pA n (s.data.toList.drop i)=.ok (⟨W,tok,ps⟩,s.data.toList.drop j)
def ai_(c b X K:Nat)(s:aj)(v:Value)(W:Bs)(w:World)(t:Value)(wr:World):Prop :=
 ∃mb ps pv j,t=.bool mb/\j<=s.size/\dz wr c s j/\iR wr b c s v/\kU wr X (bA W) ⟨#[]⟩ pv/\OwnRows w.heap.size 171 2 wr pv (ps.map oG)/\Fr (one c) w wr/\ps.length<=16/\(∀p∈ps,p.1.length<100000) /\
  gZ ((s.data.toList.drop K).length+1) [] (s.data.toList.drop K)=(if mb then gZ ((s.data.toList.drop j).length+1) ps (s.data.toList.drop j)else .ok (ps,s.data.toList.drop j))
theorem Jg(ps:List jF)(r:Bs):gZ (r.length+1) ps r=match lo ps r with
  | .error e=>.error e
  | .ok q=>if oq q.2 then(if lT (iP q.2)then gZ ((iP q.2).length+1) (ps++[q.1]) (iP q.2)else .ok (ps++[q.1],iP q.2))else .error 3:=by
 rw[gZ];cases hp:lo ps r with
 |error e=>rfl
 |ok q =>
  obtain⟨p,r1⟩:=q;simp only;have h1:=uf hp;have h2:=oU r1;rw[uI r.length _ _ ab]
theorem V2:(prog.info? 198).map (fun i=>(i.zero,i.size,i.bytes))=some (some (.agg #[.string ⟨#[]⟩,.string ⟨#[]⟩,.slice none 0 0]),3,56):=af
theorem OwnRows.aaj{xs:dh}(h:OwnRows base e k w v xs):v.oneCell'=true:=by
 obtain⟨a,c,e⟩:=h.form;rw[e];rfl
theorem Ov(s:aj)(k:Nat):decide (k<cQ dN s.data.toList k)=pU (s.data.toList.drop k):=by
 rcases eS k s.data.toList.length with h|h
 ·rw[cX h];show _=dN s.data.toList[k];cases hb:dN s.data.toList[k]
  ·rw[lR (fun c hc=>by rw[List.getElem?_eq_getElem h]at hc;cases hc;exact hb)];simp
  ·rw[oQ (List.getElem?_eq_getElem h) hb];have:=lS (p:=dN) (l:=s.data.toList) (i:=k+1);exact bJ ab
 ·rw[cV h,lR (fun c hc=>by rw[List.getElem?_eq_none h]at hc;cases hc)];simp[pU]
theorem V3(s:aj)(k:Nat):oq (s.data.toList.drop k)=oq (s.data.toList.drop (eN s k)):=by rw[oY,Iq]
theorem aak(s:aj)(k:Nat):eN s (eN s k)=eN s k:=Gi _ _ _
theorem aal(base b c i:Nat)(s:aj)(xs:List nA)(v:Value)(w:World)(hr:iR w b c s v)(h:dz w c s i)(hv:lG base w v xs)(hb:base<=w.heap.size)
  (hs:s.size<100000)(hi:i<=s.size)(hl:xs.length<=8) :
  aB 113 #[.pointer (some ⟨b,0,none⟩)] w (tB base c b i s xs v w):=by
 have hm:s.size<=maxLen:=ft;have hbc:=hr.ne h;have q0:=hr.cell0;have hw:=IH hi;have HWD:=O (wK s i);have Rs:=(show pA xs.length (s.data.toList.drop i)=if(ic (s.data.toList.drop i)).isEmpty then .error 3
  else if xs.length=8 then .error 4
  else if oq (iD (s.data.toList.drop i))then .ok (⟨ic (s.data.toList.drop i),[],[]⟩,fb (iD (s.data.toList.drop i)))
  else if !pU (iD (s.data.toList.drop i))then .error 3
  else match singleR (fb (iD (s.data.toList.drop i)))with
   |some q=>.ok (⟨ic (s.data.toList.drop i),q.1,[]⟩,q.2)
   |none=>match gZ ((fb (iD (s.data.toList.drop i))).length+1) [] (fb (iD (s.data.toList.drop i)))with
    | .error e=>.error e
    | .ok q=>.ok (⟨ic (s.data.toList.drop i),[],q.1⟩,q.2)from rfl)
 rw[<-wK]at Rs;have Fq:(ic (s.data.toList.drop i)).length<=s.size:=by
  have:=rE (s.data.toList.drop i);simp at this;omega
 have J2:=O Rs;clear Rs;go_enter func113,ntmps113;go_wp2_with fail
 refine(Bb c s i w h).mono ?_;rintro e w0⟨rfl,rfl⟩;go_wp2_with fail
 refine(wj c s i w h hm hi).mono ?_;rintro e w1⟨rfl,pK,dk⟩;replace pK:dz w1 c s (J0 s i):=pK;rw[show s.extract i (cQ gq s.data.toList i)=bA (ic (s.data.toList.drop i))from zK s i];generalize ic (s.data.toList.drop i)=W at *
 generalize J0 s i=K1 at *
 obtain⟨wx,Ot⟩:∃wx,wx=w1.alloc (.cells #[.string (bA W),.string ⟨#[]⟩,.slice none 0 0] 198):=⟨_,rfl⟩;have dE:Fr aS w1 wx:=by rw[Ot];exact(ae _ _).alloc _
 have hX:kU wx w1.heap.size (bA W) ⟨#[]⟩ (.slice none 0 0):=by rw[Ot];exact aC _ _
 have hXw:w.heap.size<=w1.heap.size:=dk.size;have zg:=hr.one h dk;have oF:=zg.fr dE id;have sR:=pK.fr dE id;have fU:=O (dk.trans dE.nv);have T4:=O Ot;have HXS:=O (show wx.heap.size=w1.heap.size+1 by rw[Ot];simp);have q1a:∀o:Obj,(w1.alloc o).cell? ⟨b,0,none⟩=some (.pointer (some ⟨c,0,none⟩)):=fun o=>(zg.fr ((ae aS w1).alloc o) id).cell0
 have q1b:∀o:Obj,(w1.alloc o).cell? ⟨b,2,none⟩=some v:=fun o=>(zg.fr ((ae aS w1).alloc o) id).mg;obtain⟨av,cv,hvv⟩:=hv.form;rw[hvv]at q1b;generalize hXe:w1.heap.size=X at *
 clear Ot q0 dk;cases Qg:W.isEmpty
 case true =>
  have DI:(bA W).toList=[]:=by rw[mY];exact gK.1 Qg
  have AY:((bA W).toList== [])=true:=dX.2 DI;have HE:=O (show pA xs.length (s.data.toList.drop i)=.error 3 by rw[J2.o,az Qg]);go_wp2_with fail
  rw[<-T4.o];refine(uh b c K1 3 s v wx oF sR).mono ?_;rintro e w4⟨⟨g,rfl,hg⟩,kS⟩;go_wp2;go_ret;exact tB.bad HE.o (fU.o.trans kS.nv) ⟨g,rfl,hg⟩
 case false =>
  have DI:¬(bA W).toList=[]:=by rw[mY];intro e;rw[e]at Qg;cases Qg
  have AY:((bA W).toList== [])=false:=aO.2 DI;by_cases h8:xs.length=8
  ·have h8':((xs.length:Int)==8)=true:=by rw[h8];rfl
   have HE:=O (show pA xs.length (s.data.toList.drop i)=.error 4 by rw[J2.o,aq (by rw[Qg];simp),az h8]);clear h8;go_wp2;go_ret;rw[<-T4.o];exact tB.bad HE.o (fU.o.alloc _) ⟨X+1,rfl,by rw[<-HXS.o];exact aC wx _⟩
  ·have h8':((xs.length:Int)==8)=false:=aO.2 ab;have Se:=O (show pA xs.length (s.data.toList.drop i)=if oq (s.data.toList.drop K1)then .ok (⟨W,[],[]⟩,fb (s.data.toList.drop K1))
    else if !pU (s.data.toList.drop K1)then .error 3
    else match singleR (fb (s.data.toList.drop K1))with
     |some q=>.ok (⟨W,q.1,[]⟩,q.2)
     |none=>match gZ ((fb (s.data.toList.drop K1)).length+1) [] (fb (s.data.toList.drop K1))with
      | .error e=>.error e
      | .ok q=>.ok (⟨W,[],q.1⟩,q.2)by rw[J2.o,aq (by rw[Qg];simp),aq h8])
   clear J2 Qg;go_wp2_with fail
   rw[<-T4.o];refine(mI c s K1 wx sR hm hw).mono ?_;rintro e w3⟨rfl,uG,iz⟩;replace uG:dz w3 c s (eN s K1):=uG;have HBH:=O (show decide (K1<cQ dN s.data.toList K1)=pU (s.data.toList.drop K1)from Ov s K1);rw[HBH.o];have sH:=yC hw;have C0:=O (oY s K1);rw[<-oY,V3]at Se;have qm:=O (aak s K1);generalize eN s K1=K2 at *
   have rP:=oF.one sR iz;have EC:=hX.fr iz (fun e=>hX.ne sR e);have il:=O (fU.o.trans iz);clear zg oF pK sR hX dE iz q1a q1b DI AY h8' HBH C0
   go_upto_block 0 with fail
   go_cut [5,6,7,8]from 39 to 69 (fun _ _ _ _ wz=>aeF c b X i xs.length s v W w wz)
   case first =>
    have hXX:=EC.ne uG;have hXb:=EC.neR rP;go_wp2_with fail
    refine(DF b c K2 s v w3 rP uG hm sH).mono ?_;rintro e w4⟨rfl,uD,kS⟩;rw[qm.o]at uD;have wh:=rP.one uG kS;have hX4:=EC.fr kS hXX;have j6:=O (il.o.trans kS);clear rP EC uG kS;cases hov:oq (s.data.toList.drop K2)
    case true =>
     have HE:=O (show pA xs.length (s.data.toList.drop i)=.ok (⟨W,[],[]⟩,s.data.toList.drop K2)by rw[Se.o,az hov]);go_wp2_with fail
     go_meet
     exact⟨[],[],_,K2,sH,uD,wh,hX4,dB _ _ _ _,j6.o,HE.o⟩
    case false =>
     cases hbh:pU (s.data.toList.drop K1)
     case false =>
      have HE:=O (show pA xs.length (s.data.toList.drop i)=.error 3 by rw[Se.o,aq (by rw[hov];simp),az (by rw[hbh];rfl)]);go_wp2_with fail
      refine(uh b c K2 3 s v w4 wh uD).mono ?_;rintro e w5⟨⟨g,rfl,hg⟩,lN⟩;go_wp2;go_ret;exact tB.bad HE.o (j6.o.trans lN.nv) ⟨g,rfl,hg⟩
     case true =>
      have aeH:=O (show pA xs.length (s.data.toList.drop i)=match singleR (s.data.toList.drop K2)with
       |some q=>.ok (⟨W,q.1,[]⟩,q.2)
       |none=>match gZ ((s.data.toList.drop K2).length+1) [] (s.data.toList.drop K2)with
        | .error e=>.error e
        | .ok q=>.ok (⟨W,[],q.1⟩,q.2)by rw[Se.o,aq (by rw[hov];simp),aq (by rw[hbh];simp)])
      clear Se;go_wp2_with fail
      refine(NN b c K2 s v w4 wh uD hs sH).mono ?_;intro e w5 qI;obtain⟨lN,pz⟩:=qI;have yb:=wh.one uD lN;have hX5:=hX4.fr lN hXX;have v_:=O (j6.o.trans lN);have x1:=hX5.ib;have xf1:=hX5.free 1;have HS:=O (show∀u:Value,Fr (one X) w5 (w5.setCell ⟨X,1,none⟩ u)from fun u=>(ae (one X) w5).setCell (p:=⟨X,1,none⟩) (fun _=>rfl) u)
      have xo:=O (show∀u:Value,Fr (one c) w (w5.setCell ⟨X,1,none⟩ u)from fun u=>v_.o.step (HS.o u) (fun k hk e=>by have e':k=X:=e;omega));clear lN;cases hsr:singleR (s.data.toList.drop K2)with
      |some q =>
       obtain⟨tk,z⟩:=q;rw[hsr]at pz;obtain⟨rfl,j,hj,uE,hd5⟩:=pz;have HE:=O (show pA xs.length (s.data.toList.drop i)=.ok (⟨W,tk,[]⟩,s.data.toList.drop j)by rw[aeH.o,hsr,hd5]);have hX6:kU (w5.setCell ⟨X,1,none⟩ (.string (bA tk))) X (bA W) (bA tk) (.slice none 0 0):=cq hX5 1 _;have J1:=yb.fr (HS.o (.string (bA tk))) (fun e=>hXb (show b=X from e).symm)
       have Ni:=uE.fr (HS.o (.string (bA tk))) (fun e=>hXX (show c=X from e).symm);clear hd5;go_wp2_with fail
       go_meet
       exact⟨tk,[],_,j,hj,Ni,J1,hX6,dB _ _ _ _,xo.o _,HE.o⟩
      |none =>
       rw[hsr]at pz;obtain⟨rfl,uE⟩:=pz;have HPN:=O (show pA xs.length (s.data.toList.drop i)=match gZ ((s.data.toList.drop K2).length+1) [] (s.data.toList.drop K2)with
        | .error e=>.error e
        | .ok q=>.ok (⟨W,[],q.1⟩,q.2)by rw[aeH.o,hsr])
       have hX6:kU (w5.setCell ⟨X,1,none⟩ (.string ⟨#[]⟩)) X (bA W) ⟨#[]⟩ (.slice none 0 0):=cq hX5 1 _;have J1:=yb.fr (HS.o (.string ⟨#[]⟩)) (fun e=>hXb (show b=X from e).symm);have Ni:=uE.fr (HS.o (.string ⟨#[]⟩)) (fun e=>hXX (show c=X from e).symm);have GB:=O (xo.o (.string ⟨#[]⟩));clear aeH;go_wp2_with fail
       clear x1 xf1;generalize w5.setCell ⟨X,1,none⟩ (.string ⟨#[]⟩)=w7 at *
       go_loopw[7] (ai_ c b X K2 s v W w) (fun t wr=>match t with| .bool true=>s.size-pN wr c+1|_=>0)
       case atStart=>exact⟨true,[],_,K2,rfl,sH,Ni,J1,hX6,dB _ _ _ _,GB.o,aR,aR,rfl⟩
       case round =>
        obtain⟨mb,ps,pv,j,rfl,hj,hc8,US,hX8,TP,cP,aoQ,hpz,hpn⟩:=hrel;have HPS:=O hpn;clear hpn;cases mb
        case false =>
         have HE:=O (show pA xs.length (s.data.toList.drop i)=.ok (⟨W,[],ps⟩,s.data.toList.drop j)by rw[HPN.o,HPS.o];rfl);go_wp2_with fail
         go_meet
         exact⟨[],ps,pv,j,hj,hc8,US,hX8,TP,cP,HE.o⟩
        case true =>
         have lO:=O (Jg ps (s.data.toList.drop j));have qq:=O hc8.pos;have hwr:w.heap.size<=wr.heap.size:=cP.size;go_wp2_with fail
         refine(Rr w.heap.size b c X j s v ps (bA W) ⟨#[]⟩ pv wr US hc8 hX8 TP hwr hs hj aoQ hpz).mono ?_;intro e w9 hpp;obtain⟨ZR,hpm⟩:=hpp;have hXc:=hX8.ne hc8;have Yz:=hX8.neR US;have hbo:pv.ownBlock≠some b:=TP.not US ag;have hr9:=US.fr ZR (fun hh=>by
          rcases hh with hh|hh|hh
          ·exact hbc hh
          ·exact Yz hh.symm
          ·exact hbo hh)
         have Yk:=O (show Fr (one c) w w9 from cP.step ZR (fun k hk hh=>by
          rcases hh with hh|hh|hh
          ·exact hh
          ·omega
          ·have:=TP.block k hh;omega))
         clear ZR cP TP hX8 US;cases zi:lo ps (s.data.toList.drop j)with
         |error n =>
          rw[zi]at hpm;obtain⟨pl,g,rfl,hg⟩:=hpm;have HE:=O (show pA xs.length (s.data.toList.drop i)=.error n by
           rw[HPN.o,HPS.o,az True.intro,lO.o,zi])
          clear zi;go_wp2_with fail
          go_ret;exact tB.bad HE.o Yk.o ⟨g,rfl,hg⟩
         |ok q =>
          obtain⟨p,z⟩:=q;rw[zi]at hpm;obtain⟨rfl,j1,zh,hj1,hc9,hd9,hX9,Zv⟩:=hpm;simp only at hd9 Zv;have hle:=uf zi;rw[zi]at lO;have ar9:=(Gx zi).2.2;have CJ:(s.data.toList.drop j).length<=s.size:=aR;have hjj:j<j1:=by
           have e1:z.length=s.size-j1:=by rw[<-hd9];simp
           have e2:(s.data.toList.drop j).length=s.size-j:=aR;omega
          have Y_:=O (show p.1.length<100000 from ab);clear zi hle CJ;go_wp2_with fail
          refine(DF b c j1 s v w9 hr9 hc9 hm hj1).mono ?_;rintro e w10⟨rfl,V4,NR⟩;have aao:=hr9.one hc9 NR;have aja:=hX9.fr NR hXc;have aeK:=Zv.fr NR (fun k hk e=>by
           obtain rfl:k=c:=e;exact Zv.not hc9 ag hk)
          have ajb:=O (Yk.o.trans NR);have hbj:=yC (s:=s) hj1;have hbd:=O (oY s j1);rw[hd9]at hbd ⊢;clear NR hr9 hX9 Zv hc9;cases hov:oq z
          case false =>
           have HE:=O (show pA xs.length (s.data.toList.drop i)=.error 3 by
            rw[HPN.o,HPS.o,az True.intro,lO.o];simp only[hov,cL,fa])
           go_wp2_with fail
           refine(uh b c _ 3 s v w10 aao V4).mono ?_;rintro e w11⟨⟨g,rfl,hg⟩,Ow⟩;go_wp2;go_ret;exact tB.bad HE.o (ajb.o.trans Ow.nv) ⟨g,rfl,hg⟩
          case true =>
           go_wp2_with fail
           refine(DE b c _ s v w10 aao V4 hm hbj).mono ?_;rintro e w11⟨rfl,aap,Ow⟩;have HGD:=O (show s.data.toList.drop (cQ oD s.data.toList (eN s j1))=iP z by
            rw[kp,hbd.o];exact uJ z)
           have Oa:cQ oD s.data.toList (eN s j1)<=s.size:=by simpa using ij (p:=oD) (l:=s.data.toList) (i:=eN s j1) (by simpa using hbj)
           have Yn:j1<=cQ oD s.data.toList (eN s j1):=aE (lS (p:=dN) (l:=s.data.toList) (i:=j1)) lS;generalize cQ oD s.data.toList (eN s j1)=j2 at *
           have aeM:=aao.one V4 Ow;have ajc:=aja.fr Ow hXc;have aeN:=aeK.fr Ow (fun k hk e=>by
            obtain rfl:k=c:=e;exact aeK.not V4 ag hk)
           have aoS:=O (ajb.o.trans Ow);clear Ow aao aja aeK V4;go_wp2_with fail
           refine(NM b c j2 s v w11 aeM aap hm Oa).mono ?_;rintro e w12⟨rfl,aeO,zG⟩;rw[HGD.o];have ajd:=aeM.one aap zG;have aje:=ajc.fr zG hXc;have ajf:=aeN.fr zG (fun k hk e=>by
            obtain rfl:k=c:=e;exact aeN.not aap ag hk)
           have ajg:=O (aoS.o.trans zG);have Fu:=O (show gZ ((s.data.toList.drop K2).length+1) [] (s.data.toList.drop K2)=(if lT (iP z)then gZ ((s.data.toList.drop j2).length+1) (ps++[p]) (s.data.toList.drop j2)else .ok (ps++[p],s.data.toList.drop j2))by
            rw[HPS.o,az True.intro,lO.o];simp only[hov,eo];rw[HGD.o])
           have ajh:(ps++[p]).length<=16:=bH;have aji:∀q∈ps++[p],q.1.length<100000:=by
            intro q hq;rcases bL.1 hq with g|g
            ·exact hpz q g
            ·simp at g;subst g;exact Y_.o
           clear zG aeM ajc aeN aap hov hd9;cases Yr:lT (iP z)
           ·rw[Yr]at Fu;go_wp2;go_roundw
            case rel=>exact⟨false,ps++[p],zh,j2,rfl,Oa,aeO,ajd,aje,ajf,ajg.o,ajh,aji,Fu.o⟩
            case measure=>simp
           ·rw[Yr]at Fu;go_wp2;go_roundw
            case rel=>exact⟨true,ps++[p],zh,j2,rfl,Oa,aeO,ajd,aje,ajf,ajg.o,ajh,aji,Fu.o⟩
            case measure=>simp only;rw[qq.o,aeO.pos];omega
   case rest =>
   obtain⟨tok,ps,pv,j,hj,uD,wh,hX4,TK,kS,hE⟩:=hcut;have HE:=O hE;clear hE Se uG rP EC;have hXc:=hX4.ne uD;have hXb:=hX4.neR wh;have PZ:=hv.fr kS (Jf.cur h);obtain⟨rs,ho,yd⟩:=PZ;have vN:=yd.len;subst hvv;have C4:(Value.slice av xs.length cv).ownBlock≠some c:=ho.not uD ag;have hob:(Value.slice av xs.length cv).ownBlock≠some b:=ho.not wh ag;have hpc:pv.ownBlock≠some c:=TK.not uD ag
   have Ys:pv.ownBlock≠some b:=TK.not wh ag;have cW:wc.ownsRow base 198 3 (.slice av xs.length cv) xs.length (rs.map Bx).flatten:=by
    have hh:=ho.2;rw[ai,vN]at hh;exact hh
   have xY:c<wc.heap.size:=uD.lt;have hbl:b<wc.heap.size:=wh.lt;have hXl:X<wc.heap.size:=hX4.lt;have iL:base<=wc.heap.size:=aE hb kS.size;have r2:=wh.mg;have rf2:=wh.free 2;have x0:=hX4.cell0;have x1:=hX4.ib;have x2:=hX4.mg;have hpo:pv.oneCell'=true:=TK.aaj;obtain⟨i0,qN,pD,ll,lF⟩:=info_parts V2;have xJ:=O (V0 (r:=(bA W,bA tok,pv)) hpo);have HO:=O ho;have HB:=O yd;have HP4:=O TK
   have h8l:xs.length<8:=ab;clear hv ho yd TK;go_wp2_with fail
   go_region_law ((with_reducible refine mX ⟨some 77,_,_,_,_,_⟩ ?_)
                  refine step_append_lies _ bD _ _ _ bD base 198 i0 _ 3 56 underlying123 qN pD ll lF rfl ab (.slice av xs.length cv) xs.length _ bD (by repeat(first|exact cW|apply World.ownsRow.alloc|apply World.ownsRow.drew)) ⟨wc.heap.size,0,none⟩ 1 1 (Bx (bA W,bA tok,pv)) bD bD (kY wc (Bx (bA W,bA tok,pv)) _) xJ.o ab ft ab bH (wc.heap.size+1) aR ?_
                  intro gg cap w5 wM jJ UW adM
                  have rq:Fr (fun k=>(Value.slice av xs.length cv).ownBlock=some k) wc w5:=fy (by repeat(first|exact ae _ _|apply aA|apply bB)) jJ (fun _ hk _=>hk)
                  have k4:w5.cell? ⟨b,2,none⟩=some (.slice av xs.length cv):=(rq.cell (p:=⟨b,2,none⟩) hbl hob).trans r2
                  have e4:w5.frozen? ⟨b,2,none⟩=false:=(rq.frozen (p:=⟨b,2,none⟩) hbl hob).trans rf2)
   all_goals
    have yb:iR w5 b c s (.slice av xs.length cv):=wh.fr rq hob;have uE:dz w5 c s j:=uD.fr rq C4;have kC:Fr (one b) w5 (w5.setCell ⟨b,2,none⟩ (.slice (some ⟨gg,0,none⟩) (xs.length+1) cap)):=(ae (one b) w5).setCell (p:=⟨b,2,none⟩) (fun _=>rfl) _;have J1:iR (w5.setCell ⟨b,2,none⟩ (.slice (some ⟨gg,0,none⟩) (xs.length+1) cap)) b c s (.slice (some ⟨gg,0,none⟩) (xs.length+1) cap):=cq yb 2 _
    have Ni:=uE.fr kC (fun e=>hbc (show c=b from e).symm);have hgb:gg≠b:=by
     rintro rfl;rcases UW with e|e
     ·exact hob e
     ·omega
    have hel:∀(u:Value) (qs:List jF),OwnRows base 171 2 wc u (qs.map oG)->OwnRows base 171 2 (w5.setCell ⟨b,2,none⟩ (.slice (some ⟨gg,0,none⟩) (xs.length+1) cap)) u (qs.map oG):=by
     intro u qs hu;have h1:OwnRows base 171 2 w5 u (qs.map oG):=hu.fr rq (fun k hk sH=>by
      obtain⟨cur,hcu⟩:=hu.Ca hk;obtain⟨avL,ajj⟩:=HO.o.Ca sH;rw[hcu]at ajj;simp at ajj)
     exact h1.fr kC (fun k hk e=>by
      obtain rfl:k=b:=e;exact h1.not yb ag hk)
    have Nh:OwnRows base 198 3 w5 (.slice (some ⟨gg,0,none⟩) (xs.length+1) cap) ((rs++[(bA W,bA tok,pv)]).map Bx):=by
     refine⟨?_,?_⟩
     ·intro y hy;rw[bI]at hy;rcases bL.1 hy with g|g
      ·exact HO.o.1 y g
      ·simp at g;subst g;exact⟨rfl,xJ.o⟩
     ·have e1:((rs++[(bA W,bA tok,pv)]).map Bx).length=xs.length+1:=by simp[vN]
      have e2:((rs++[(bA W,bA tok,pv)]).map Bx).flatten=(rs.map Bx).flatten++Bx (bA W,bA tok,pv):=aR;rw[e1,e2];exact wM
    have zN:=Nh.fr kC (fun k hk e=>hgb (by
     simp only[Value.ownBlock,eb]at hk;rw[hk];exact e))
    have hcs:lG base (w5.setCell ⟨b,2,none⟩ (.slice (some ⟨gg,0,none⟩) (xs.length+1) cap)) (.slice (some ⟨gg,0,none⟩) (xs.length+1) cap) (xs++[⟨W,tok,ps⟩]) :=
     ⟨_,zN,(HB.o.mono (fun r x hr=>⟨hr.1,hr.2.1,hel _ _ hr.2.2⟩)).app (.cons ⟨rfl,rfl,hel _ _ (HP4.o.up hb)⟩ .nil)⟩
    have Rt:=O (show Fr (ai9 c b (.slice av xs.length cv)) w (w5.setCell ⟨b,2,none⟩ (.slice (some ⟨gg,0,none⟩) (xs.length+1) cap))from
     ((kS.mono (fun k _ e=>Or.inl e)).trans (rq.mono (fun k _ e=>Or.inr (Or.inr e)))).trans (kC.mono (fun k _ e=>Or.inr (Or.inl e))))
    clear k4 e4 jJ wM cW rq hel;go_wp2;go_ret;refine⟨Rt.o,?_⟩;rw[HE.o];exact⟨rfl,j,_,hj,Ni,rfl,J1,hcs⟩
def sj(part:Int)(method:aj)(hs:List ig):Bool:=decide (0<=part)&&(decide (part<4)&&(Bc method.data.toList&&(decide (hs.length<=40)&&hs.all fun p=>Bc p.1.data.toList)))
def ajo(hs:List ig)(w1:World)(i:Value)(wr:World):Prop :=
 ∃k:Nat,k<=hs.length/\i=.int .i64 k/\(hs.take k).all (fun p=>Bc p.1.data.toList)=true/\Fr aS w1 wr
theorem OA(r:gC Value)(hs:List ig)(w:World)(hr:oX w r.eB hs)(hz:G_ r hs) :
  aB 45 #[.agg r.cells.toArray] w fun e w'=>e=.returned (.bool (sj r.part r.method hs))/\Fr aS w w':=by
 have gO:=O (show sj r.part r.method hs=(decide (0<=r.part)&&(decide (r.part<4)&&(Bc r.method.data.toList&&(decide (hs.length<=40)&&hs.all fun p=>Bc p.1.data.toList))))from rfl);generalize sj r.part r.method hs=res at gO ⊢;obtain⟨wb,kj⟩:∃wb,wb=w.alloc (.cells r.cells.toArray 37):=⟨_,rfl⟩;have kC:Fr aS w wb:=by rw[kj];exact(ae aS w).alloc _
 have lZ:wb.heap[w.heap.size]?=some (.cells r.cells.toArray 37 (0,0)):=by rw[kj];exact aC _ _
 obtain⟨ah,ch,g_⟩:=dU hr;rw[ai]at g_;have uX:r.cells=[.int .i64 r.part,.bool r.dt.aG,.string r.dt.host,.int .i64 r.dt.port,.bool r.o.aG,.string r.o.host,.int .i64 r.o.port,.string r.path,.string r.query,.string r.method,.slice ah hs.length ch,.bool r.f_,.string r.body]:=by unfold gC.cells;rw[g_]
 have c0:wb.cell? ⟨w.heap.size,0,none⟩=some (.int .i64 r.part):=by simp only[World.cell?,lZ];rw[uX];rfl
 have c9:wb.cell? ⟨w.heap.size,9,none⟩=some (.string r.method):=by simp only[World.cell?,lZ];rw[uX];rfl
 have G':wb.cell? ⟨w.heap.size,10,none⟩=some (.slice ah hs.length ch):=by simp only[World.cell?,lZ];rw[uX];rfl
 have hh:=bh hr kC;rw[g_]at hh;obtain⟨ll,lF,UO⟩:=hz;have hlen:(hs.length:Int)<100000:=ab;have IS:=O (show∀U,aB 91 #[.string r.method] U fun e w'=>e=.returned (.bool (Bc r.method.data.toList))/\U=w' from fun U=>Di r.method U ab);have HH:=O hh;have HZ:=O UO;have mF:=O kC;rw[uX]at kj ⊢;have ri:=O kj;rw[kj]at c0 c9 G';clear hr kC lZ g_ uX hh UO kj;by_cases h0:r.part<0
 ·have HR:=O (show res=false by rw[gO.o,bj ab];rfl);clear gO;go_enter func45,ntmps45;go_wp2;go_ret;exact⟨by rw[HR.o];rfl,by rw[<-ri.o];exact mF.o⟩
 by_cases h4:r.part>=4
 ·have HR:=O (show res=false by rw[gO.o,bj (show¬r.part<4 from ab),kI,Bool.and_false]);clear gO;go_enter func45,ntmps45;go_wp2;go_ret;exact⟨by rw[HR.o];rfl,by rw[<-ri.o];exact mF.o⟩
 have Hg:=O (show res=(Bc r.method.data.toList&&(decide (hs.length<=40)&&hs.all fun p=>Bc p.1.data.toList))by rw[gO.o,bJ (show 0<=r.part from ab),bJ (show r.part<4 from ab)];rfl);clear gO;go_enter func45,ntmps45;go_wp2_with fail
 refine(IS.o _).mono ?_;rintro e w2⟨rfl,rfl⟩;cases him:Bc r.method.data.toList
 ·have HR:=O (show res=false by rw[Hg.o,him];rfl);clear Hg;go_wp2;go_ret;exact⟨by rw[HR.o];rfl,by rw[<-ri.o];exact mF.o⟩
 by_cases Il:(hs.length:Int)>40
 ·have HR:=O (show res=false by rw[Hg.o,him,bj (show¬hs.length<=40 from ab)];rfl);clear Hg;go_wp2;go_ret;exact⟨by rw[HR.o];rfl,by rw[<-ri.o];exact mF.o⟩
 have Oq:=O (show res=hs.all (fun p=>Bc p.1.data.toList)by rw[Hg.o,him,bJ (show hs.length<=40 from ab)];rfl);clear Hg him ll lF h0 h4 hlen;go_wp2;rw[<-ri.o];go_loopw[28] (ajo hs wb) (fun i _=>hs.length-(intOf i).toNat)
 case atStart=>exact⟨0,aL _,rfl,rfl,ae _ _⟩
 case round =>
  obtain⟨k,hk,rfl,iI,cP⟩:=hrel;have Bg:=O iI;clear iI;by_cases fe:k<hs.length
  ·have pE:(k:Int)<(hs.length:Int):=ab;rcases(bh HH.o cP).2 with ⟨_,_,_,e,_⟩|⟨bk,o,c,hf,h1,h2,h3,h4c⟩
   ·have e2:=ar List.length e;rw[ai]at e2;have e3:hs.length=0:=e2;omega
   ·rw[ai]at hf h1;cases hf;unfold maxLen at h2;have dS:=O (List.getElem?_eq_getElem fe);have hc:=h4c k _ (by rw[List.getElem?_map,dS.o];rfl);have hd0:=hc 0 _ rfl;have zt:=hc 1 _ rfl;simp only[Nat.add_zero]at hd0;have UO:(hs[k]).1.size<100000:=(HZ.o _ (bO fe)).1;generalize hs[k]=x at dS hd0 zt UO
    have IS2:=O (show∀U,aB 91 #[.string x.1] U fun e w'=>e=.returned (.bool (Bc x.1.data.toList))/\U=w' from fun U=>Di x.1 U ab);have C9:=O (cP.alloc (.cells #[.string x.1,.string x.2] 171));clear h4c hc;go_wp2_with fail
    refine(IS2.o _).mono ?_;rintro e w3⟨rfl,rfl⟩;cases hx:Bc x.1.data.toList
    ·have HR:=O (show res=false by rw[Oq.o];exact yT dS.o hx);clear hx;go_wp2;go_ret;exact⟨by rw[HR.o];rfl,mF.o.trans C9.o⟩
    ·have hn:=O (uW dS.o Bg.o hx);clear hx;go_wp2;go_roundw
     case rel=>exact⟨k+1,ab,bg,hn.o,C9.o⟩
     case measure=>simp[intOf];omega
  ·have pE:¬(k:Int)<(hs.length:Int):=ab;have HR:=O (show res=true by rw[Oq.o];have h:=Bg.o;rwa [aD ab]at h);go_wp2;go_ret;exact⟨by rw[HR.o];rfl,mF.o.trans cP⟩
theorem Su(p q:ez)(w:World):(binOp .eql 155 (.agg p.cells.toArray) (.agg q.cells.toArray)).run prog w=.ok (.bool (p.lz q)) w:=by
 obtain⟨⟨a,b,c⟩,⟨d,e,f⟩,g,i,j,k,l,m⟩:=p;obtain⟨⟨a',b',c'⟩,⟨d',e',f'⟩,g',i',j',k',l',m'⟩:=q;unfold ez.cells;go_simp;simp only[show∀(P:Prop) [Decidable P] (W:World) (b:Bool),(if P then(Result.ok (Value.bool b) W:Result Value)else .ok (.bool false) W)=.ok (.bool (decide P&&b)) W from fun P _ W b=>by by_cases h:P<;>simp[h]]
 congr 2
 rw[fj];simp only[ez.lz,gG.lz,cy,du,dX,and_assoc,iW]
def ve(w:World)(b o:Nat)(p:ez):Prop :=
 w.cell? ⟨b,o,none⟩=some (.bool p.dt.aG)/\w.cell? ⟨b,o+1,none⟩=some (.string p.dt.host)/\w.cell? ⟨b,o+2,none⟩=some (.int .i64 p.dt.port)/\w.cell? ⟨b,o+3,none⟩=some (.bool p.o.aG)/\w.cell? ⟨b,o+4,none⟩=some (.string p.o.host)/\w.cell? ⟨b,o+5,none⟩=some (.int .i64 p.o.port)/\w.cell? ⟨b,o+6,none⟩=some (.string p.path)/\w.cell? ⟨b,o+7,none⟩=some (.string p.query)/\w.cell? ⟨b,o+8,none⟩=some (.bool p.f_)/\w.cell? ⟨b,o+9,none⟩=some (.string p.method)/\w.cell? ⟨b,o+10,none⟩=some (.string p.head)/\w.cell? ⟨b,o+11,none⟩=some (.int .i64 p.qh)
theorem ve.of{o:Nat}(h:∀(i:Nat) u,p.cells[i]?=some u->w.cell? ⟨b,o+i,none⟩=some u):ve w b o p :=
 ⟨h 0 _ rfl,h 1 _ rfl,h 2 _ rfl,h 3 _ rfl,h 4 _ rfl,h 5 _ rfl,h 6 _ rfl,h 7 _ rfl,h 8 _ rfl,h 9 _ rfl,h 10 _ rfl,h 11 _ rfl⟩
theorem ve.eN(h:w.heap[b]?=some (.cells p.cells.toArray 155 (0,0))):ve w b 0 p :=
 ve.of fun i u hu=>by simp only[World.cell?,h];simpa using hu
theorem q_.lie{a:eO}{ps:List ez}(h:q_ w (.slice a n c) ps)(hne:ps≠ []) :
  ∃bk of,a=some ⟨bk,of,none⟩/\n=ps.length/\n<=c/\n<=maxLen/\bk<w.heap.size/\∀(j:Nat) q,ps[j]?=some q->ve w bk (of+j*12) q:=by
 rcases h.2 with ⟨_,_,_,e,_⟩|⟨bk,of,c',hf,g1,g2,g3,g4⟩
 ·exact absurd (by simpa using e) hne
 ·cases hf;rw[ai]at g1;exact⟨bk,of,rfl,aR,by simpa using g1,by rw[ai];have h1:ps.length<=c:=g1;exact aE h1 g2,g3,fun j q hq=>ve.of (g4 j q.cells (by rw[List.getElem?_map,hq];rfl))⟩
def ajt(w:World)(n:Nat)(f:Nat->Bool)(i:Value)(wr:World):Prop:=∃k:Nat,k<=n/\i=.int .i64 k/\f k=true/\Fr aS w wr
theorem Wg(v:Value)(ps:List ez)(p:ez)(w:World)(h:q_ w v ps) :
  aB 197 #[v,.agg p.cells.toArray] w fun e w'=>e=.returned (.int .i64 (mh (fun q=>p.lz q) ps 0))/\Fr aS w w':=by
 obtain⟨av,cv,hv⟩:=dU h;subst hv;rw[ai]at h ⊢;have HQ:=O (Su p);obtain⟨w1,oJ⟩:∃w1,w1=w.alloc (.cells p.cells.toArray 155):=⟨_,rfl⟩;have dk:Fr aS w w1:=by rw[oJ];exact(ae _ _).alloc _
 have lZ:w1.heap[w.heap.size]?=some (.cells p.cells.toArray 155 (0,0)):=by rw[oJ];exact aC _ _
 have HP:=O (show∀U,Fr aS w1 U->ve U w.heap.size 0 p from fun U hU=>ve.eN (hU.keep lZ id));have HL:=O (show∀U,Fr aS w1 U->q_ U (.slice av ps.length cv) ps from fun U hU=>bh h (dk.trans hU));have ln:=O dk;have IV:=O oJ;clear h dk lZ;unfold ez.cells at oJ HQ ⊢;go_enter func197,ntmps197;go_wp2;rw[<-oJ];clear oJ
 go_loopw[8] (ajt w1 ps.length (fun k=>!(ps.take k).any (fun q=>p.lz q))) (fun i _=>ps.length-(intOf i).toNat)
 case atStart=>exact⟨0,aL _,rfl,rfl,ae _ _⟩
 case round =>
  obtain⟨k,hk,rfl,hn,cP⟩:=hrel;have HN:=O (show(ps.take k).any (fun q=>p.lz q)=false by simpa using hn);clear hn;by_cases fe:k<ps.length
  ·have pE:(k:Int)<(ps.length:Int):=ab;have OC:(0:Int)<=(k:Int):=ab;obtain⟨bk,of,rfl,g1,g2,g3,g4,g5⟩:=q_.lie (HL.o wr cP) (by intro e;rw[e]at fe;cases fe);unfold maxLen at g3;have dS:=O (List.getElem?_eq_getElem fe);generalize ps[k]=q at dS;obtain⟨c0,c1,c2,c3,c4,c5,c6,c7,c8,c9,G',T5⟩:=g5 k q dS.o;obtain⟨d0,d1,d2,d3,d4,d5,d6,d7,d8,d9,d10,d11⟩:=HP.o wr cP
   simp only[bz]at d0 d1 d2 d3 d4 d5 d6 d7 d8 d9 d10 d11;have heq:=HQ.o q;unfold ez.cells at heq;have hfd:=cP.drewN;clear g1 g5;cases he:p.lz q
   ·have qt:=O (any_take_succ dS.o HN.o he);rw[he]at heq;clear he;go_wp2;go_quiet (fail);go_wp2;go_roundw
    case rel=>exact⟨k+1,ab,bg,by show(!(ps.take (k+1)).any (fun q=>p.lz q))=true;rw[qt.o];rfl,cP.drewN _⟩
    case measure=>simp[intOf];omega
   ·have fl:=O (o9 (i:=0) dS.o he HN.o);rw[he]at heq;clear he;go_wp2;go_quiet (fail);go_wp2;go_ret;rw[fl.o,bz];exact⟨rfl,ln.o.trans (cP.drewN _)⟩
  ·have pE:¬(k:Int)<(ps.length:Int):=ab;have fl:=O (show mh (fun q=>p.lz q) ps 0= -1 from kE (by have h:=HN.o;rw[aD ab]at h;exact h));go_wp2;go_ret;rw[fl.o];exact⟨rfl,ln.o.trans cP⟩
theorem Mc(v:Value)(ps:List ez)(p:ez)(w:World)(h:q_ w v ps) :
  aB 134 #[v,.agg p.cells.toArray] w fun e w'=>e=.returned (.bool (ps.any (fun q=>p.lz q)))/\Fr aS w w':=by
 have hb:=O (rW (fun q=>p.lz q) ps 0);have dk:Fr aS w (w.alloc (.cells p.cells.toArray 155)):=(ae _ _).alloc _;have lZ:(w.alloc (.cells p.cells.toArray 155)).heap[w.heap.size]?=some (.cells p.cells.toArray 155 (0,0)):=aC _ _;have HC:=O (Wg v ps p _ (bh h dk));obtain⟨av,cv,hv⟩:=dU h;subst hv;rw[ai]at HC ⊢;have ln:=O dk;have G:=O lZ;clear h dk lZ;unfold ez.cells at *
 go_enter func134,ntmps134;go_wp2_with (first|((with_reducible refine dr 6 ?_);refine aI rfl 155 (.tmp 3) rfl w.heap.size rfl _ _ (0,0) _ G.o underlying155 rfl af ?_)|fail)
 refine HC.o.mono ?_;rintro e w2⟨rfl,dE⟩;go_wp2;go_ret;exact⟨fF hb.o,ln.o.trans dE⟩
def BB(w:World)(b:Nat)(r:gC Value):Prop :=
 w.cell? ⟨b,0,none⟩=some (.int .i64 r.part)/\w.cell? ⟨b,1,none⟩=some (.bool r.dt.aG)/\w.cell? ⟨b,2,none⟩=some (.string r.dt.host)/\w.cell? ⟨b,3,none⟩=some (.int .i64 r.dt.port)/\w.cell? ⟨b,4,none⟩=some (.bool r.o.aG)/\w.cell? ⟨b,5,none⟩=some (.string r.o.host)/\w.cell? ⟨b,6,none⟩=some (.int .i64 r.o.port)/\w.cell? ⟨b,7,none⟩=some (.string r.path)/\w.cell? ⟨b,8,none⟩=some (.string r.query)/\w.cell? ⟨b,9,none⟩=some (.string r.method)/\w.cell? ⟨b,10,none⟩=some r.eB/\w.cell? ⟨b,11,none⟩=some (.bool r.f_)/\w.cell? ⟨b,12,none⟩=some (.string r.body)
theorem BB.eN{r:gC Value}(h:w.heap[b]?=some (.cells r.cells.toArray 37 (0,0))):BB w b r:=by
 have hc:∀i u,r.cells[i]?=some u->w.cell? ⟨b,i,none⟩=some u:=fun i u hu=>by simp only[World.cell?,h];simpa using hu
 exact⟨hc 0 _ rfl,hc 1 _ rfl,hc 2 _ rfl,hc 3 _ rfl,hc 4 _ rfl,hc 5 _ rfl,hc 6 _ rfl,hc 7 _ rfl,hc 8 _ rfl,hc 9 _ rfl,hc 10 _ rfl,hc 11 _ rfl,hc 12 _ rfl⟩
theorem SZ(ps:List ez)(p:ez):(qA ps p).length<=ps.length+1:=by
 unfold qA;split
 ·omega
 ·simp
theorem zb:∀(l ps:List ez),(l.foldl qA ps).length<=ps.length+l.length
 |[],ps=>aR
 |p :: l,ps=>by
  rw[List.foldl_cons];have h1:=zb l (qA ps p);have h2:=SZ ps p;rw[List.length_cons];omega
theorem EX{n:Bs}{l:List Bs}(h:lp ps n=some l):l.length<=40:=by
 unfold lp at h;split at h
 ·cases h
 ·split at h
  ·cases h
  ·cases h;omega
theorem S_{r:rm}{t:Bs}{now:Int}{m:List ez}(h:uO r t ps now=.ok m):m.length<=81:=by
 unfold uO at h;cases e1:lp ps KV with
 |none=>rw[e1]at h;cases h
 |some ms =>
  cases e2:lp ps yB with
  |none=>rw[e1,e2]at h;cases h
  |some hs =>
   rw[e1,e2]at h;simp only at h;split at h
   ·cases h
   ·split at h
    ·cases h
    ·cases h;have h1:=EX e1;have h2:=EX e2;unfold rm.bG;refine aE (zb _ _) ?_;rw[ai];have h3:=zb ((r.methods ms).map fun m=>r.Dz (now+nu ps) m (bA [])) [];rw[ai]at h3;have h4:(r.methods ms).length<=40:=by
      unfold rm.methods;split
      ·simp
      ·rw[ai];exact h1
     simp only[List.length_nil,bz]at h3;omega
def gC.MW{D:Type}(r:gC D):Prop:=r.method.size<=140737488351232/\r.path.size<=140737488351232/\r.query.size<=140737488351232/\r.o.host.size<=140737488351232/\r.dt.host.size<=140737488351232
theorem GD:∀(l:List (jF×Bs)) (p:jF×Bs),xW (l++[p])=xW l++((if l.isEmpty then []else [44,32])++Rm p.1 p.2)
 |[],p=>rfl
 |[a],p=>by simp[xW]
 |a :: b :: l,p=>by
  have ih:=GD (b :: l) p;simp only[List.cons_append,xW]at ih ⊢;rw[ih];simp
abbrev Item:=Bs×Bs×Bool
def Item.par(i:Item):jF×Bs:=((i.1,i.2.1),Bj i.2.2 i.2.1)
def IQ(l:List (jF×Bs)):Bs:=adD++32 :: xW l
def wN(l:List Item):Bs:=IQ (l.map Item.par)
def yF(l:List Item):Bool:=l.any fun i=>Bk i.2.2 i.2.1
theorem Rw(p:jF×Bs)(l:List (jF×Bs)):0<(xW (p :: l)).length:=by
 cases l with
 |nil=>simp[xW,Rm];omega
 |cons q l=>simp[xW,Rm];omega
theorem Lg(l:List Item)(nm v:Bs)(q:Bool):qO (wN l) nm (Bj q v)=wN (l++[(nm,v,q)]):=by
 unfold qO wN;rw[bI];show _=IQ (l.map Item.par++[((nm,v),Bj q v)]);unfold IQ;rw[GD];cases l with
 |nil=>rfl
 |cons a l =>
  have h:=Rw a.par (l.map Item.par);rw[az (by simp[adD]at h ⊢; omega)];simp[Rm]
theorem Rx(l:List Item)(nm v:Bs)(q:Bool):(yF l||Bk q v)=yF (l++[(nm,v,q)]):=by unfold yF;simp
theorem UZ(q:Bool)(v:Bs):(Bj q v).length<=2*v.length+2:=by
 have:=Lf v;unfold Bj;split
 ·split
  ·exact this
  ·simp
 ·omega
theorem U0(l nm x:Bs):(qO l nm x).length<=l.length+nm.length+x.length+3:=by
 unfold qO;split<;>simp<;>omega
def wO(user aM bu uri Rn name:Bs):List Item:=[(P_,user,true),(wB,aM,true),(wC,bu,true),(Zl,uri,true),(P',Rn,true),(zy,name,false)]
def DN(eJ count:Bs):List Item:=if eJ.isEmpty then []else [(KC,eJ,false),(nNc,count,false)]
def U1(eJ:Bs)(cD:Bool)(bS:Bs):List Item:=if !eJ.isEmpty||cD then [(CY,bS,true)]else []
def DP(cz:Bs):List Item:=if cz.isEmpty then []else [(mA,cz,true)]
def jg.items(d:jg):List Item:=wO d.user d.aM d.bu d.uri d.Rn (pF d.scheme d.cD)++(DN d.eJ d.count++(U1 d.eJ d.cD d.bS++DP d.cz))
theorem jg.ZB{d:jg}(h:yF d.items=false):d.fair=true:=by
 unfold jg.items wO DN U1 DP yF at h;unfold jg.fair;simp only[List.any_append,List.any_cons,List.any_nil,Bool.or_false,eP,Bk,jS,kI,Bool.not_eq_false']at h;obtain⟨⟨h1,h2,h3,h4,h5⟩,_,h6,h7⟩:=h;rw[h1,h2,h3,h4,h5];simp only[jS];have g6:(!(!d.eJ.isEmpty||d.cD)||oo d.bS)=true:=by
  cases hc:(!d.eJ.isEmpty||d.cD)
  ·rfl
  ·rw[hc]at h6;simpa[Bk]using h6
 have g7:(d.cz.isEmpty||oo d.cz)=true:=by
  cases hc:d.cz.isEmpty
  ·rw[hc]at h7;simpa[Bk]using h7
  ·rfl
 rw[g6,g7];rfl
theorem jg.ZC(d:jg):yF d.items=!d.fair:=by
 unfold jg.items wO DN U1 DP yF jg.fair;cases d.eJ.isEmpty<;>cases d.cD<;>cases d.cz.isEmpty<;>simp[Bk]
theorem DQ{n v:Bs}(h:oo v=true):Item.par (n,v,true)=qP n v:=by unfold Item.par qP Bj;simp[h]
theorem ahT(n v:Bs):Item.par (n,v,false)=pP n v:=rfl
theorem jg.ZD{d:jg}(h:d.fair=true):wN d.items=d.text:=by
 unfold jg.fair at h;simp only[cy]at h;obtain⟨f1,f2,f3,f4,f5,f6,f7⟩:=h;unfold wN IQ jg.text
 congr 2
 have e1:(wO d.user d.aM d.bu d.uri d.Rn (pF d.scheme d.cD)).map Item.par=d.head:=by
  unfold wO jg.head;simp only[cF,dv,DQ f1,DQ f2,DQ f3,DQ f4,DQ f5,ahT]
 have e2:(DN d.eJ d.count).map Item.par=d.two:=by
  unfold DN jg.two;split<;>rfl
 have e3:(U1 d.eJ d.cD d.bS).map Item.par=d.cn:=by
  unfold U1 jg.cn;cases hc:(!d.eJ.isEmpty||d.cD)
  ·rfl
  ·rw[hc]at f6;simp only[eo,cF,dv,DQ (show oo d.bS=true by simpa using f6)]
 have e4:(DP d.cz).map Item.par=d.op:=by
  unfold DP jg.op;cases hc:d.cz.isEmpty
  ·rw[hc]at f7;simp only[cL,fa,cF,dv,DQ (show oo d.cz=true by simpa using f7)]
  ·rfl
 unfold jg.items jg.zH;rw[bI,bI,bI,e1,e2,e3,e4]
theorem Lh(fV:Int)(aM bu cz eJ:aj)(cD cR:Bool)(dom:Value)(w:World) :
  aB 103 #[.agg #[.int .i64 fV,.string aM,.string bu,.string cz,.bool cD,.string eJ,.bool cR,dom]] w fun e w'=>e=.returned (.string (bA (pF fV cD)))/\Fr aS w w':=by
 by_cases h3:fV=3
 ·cases cD with
  |false =>
   have E:bA (pF fV false)=⟨#[83,72,65,45,50,53,54]⟩:=by unfold pF;rw[az h3];rfl
   have HE:=O E;clear E;go_enter func103,ntmps103;go_wp2;go_ret;exact⟨by rw[HE.o];rfl,(ae aS w).alloc _⟩
  |true =>
   have E:bA (pF fV true)=⟨#[83,72,65,45,50,53,54,45,115,101,115,115]⟩:=by unfold pF;rw[az h3];rfl
   have HE:=O E;clear E;go_enter func103,ntmps103;go_wp2;go_ret;exact⟨by rw[HE.o];rfl,(ae aS w).alloc _⟩
 ·cases cD with
  |false =>
   have E:bA (pF fV false)=⟨#[77,68,53]⟩:=by unfold pF;rw[aq h3];rfl
   have HE:=O E;clear E;go_enter func103,ntmps103;go_wp2;go_ret;exact⟨by rw[HE.o];rfl,(ae aS w).alloc _⟩
  |true =>
   have E:bA (pF fV true)=⟨#[77,68,53,45,115,101,115,115]⟩:=by unfold pF;rw[aq h3];rfl
   have HE:=O E;clear E;go_enter func103,ntmps103;go_wp2;go_ret;exact⟨by rw[HE.o];rfl,(ae aS w).alloc _⟩
abbrev jV := @jg.ZC
abbrev jW := @jg.ZB
abbrev jX := @jg.ZD
theorem G1:(prog.info? 133).map (fun i=>(i.zero,i.size,i.bytes))=some (some (.agg wY),13,168):=af
def aew(base:Nat)(w:World)(b:Nat)(o:Nat)(g:bK bE):Prop :=
 ∃r:bK Value,(∀u∈r.cells,u.oneCell'=true)/\r.Reads (dx base w) g/\∀(i:Nat) u,r.cells[i]?=some u->w.cell? ⟨b,o+i,none⟩=some u
theorem ks.at{base:Nat}{w:World}{v:Value}{gs:List (bK bE)}(h:ks base w v gs){k:Nat}(hk:k<gs.length) :
  ∃b c,v=.slice (some ⟨b,0,none⟩) gs.length c/\gs.length<=maxLen/\aew base w b (k*13) gs[k]:=by
 obtain⟨rs,h1,h2⟩:=h;have hl:=h2.len;obtain⟨x,hx⟩:∃x,rs[k]?=some x:=⟨_,List.getElem?_eq_getElem ab⟩;obtain⟨g,hg,hr⟩:=h2.get hx;rw[List.getElem?_eq_getElem hk]at hg;obtain rfl:=km hg;have dS:=h1.at;rcases h1.2.2 with ⟨_,hn⟩|⟨bk,cap,cur,hv,_⟩
 ·rw[ai]at hn;omega
 rcases dS.2 with ⟨_,_,e1,e,_⟩|⟨I8,o,c,sL,q1,q2,q3,q4⟩
 ·simp at e;rw[e]at hl;simp at hl;omega
 ·rw[hv]at sL;cases sL;rw[ai]at q1;refine⟨bk,cap,by rw[hv,ai,hl],ab,x,(h1.1 x.cells (bZ.2 ⟨x,bQ hx,rfl⟩)).2,hr,?_⟩;intro i u hu;have:=q4 k x.cells (by rw[List.getElem?_map,hx];rfl) i u hu;rw[bz]at this;exact this
def VL(base:Nat)(w:World)(gs:List (bK bE))(v:Value)(w':World):Prop:=ks base w' v gs/\∀k,v.ownBlock=some k->w.heap.size<=k
def G2(base:Nat)(w:World)(gs:List (bK bE))(e:Ending)(w':World):Prop :=
 ∃v,e=.returned v/\VL base w gs v w'/\Fr aS w w'
def aiT(base:Nat)(w:World)(gs:List (bK bE))(v i:Value)(wr:World):Prop :=
 ∃(k:Nat) (rs:List (bK Value)),k<=gs.length/\i=.int .i64 k/\OwnRows w.heap.size 133 13 wr v (rs.map bK.cells)/\lq (bK.Reads (dx base wr)) rs (gs.take k)/\Fr aS w wr
def bK.ng(r:bK Value)(d:Value):bK Value:={r with a:={r.a with dom:=d}}
theorem G3(base:Nat)(w:World)(b:Nat)(gv wv:Value)(gs:List (aQ bE))(ws:List (bK bE))(h:dH base w b gv wv gs ws)(Oa:ws.length<68719476736) :
  aB 147 #[.pointer (some ⟨b,0,none⟩)] w (G2 base w ws):=by
 have h0:=h.c1;obtain⟨av,cv,hv⟩:=h.waits.form;subst hv;have sS:=h.lt;have iL:base<=w.heap.size:=by have:=h.low;omega
 go_enter func147,ntmps147;go_wp2;clear h0;go_loopw[3,11] (aiT base w ws) (fun _ i _=>ws.length-(intOf i).toNat)
 case atStart=>exact⟨0,[],aL _,rfl,dB _ _ _ _,.nil,ae _ _⟩
 case round =>
  obtain⟨k,rs,hk,rfl,cW,wV,cP⟩:=hrel;by_cases fe:k<ws.length
  ·obtain⟨bk,c,dk,tu,r,ef,hr,hcell⟩:=(h.dm cP).waits.at fe;cases dk;unfold maxLen at tu;obtain⟨ad,cd,yc⟩:=hr.2.2.2.2.2.2.2.2.2.2.rd.form;obtain⟨x,hx⟩:∃x,x=r.cells:=⟨_,rfl⟩;have lM:x.length=13:=by rw[hx];rfl
   have jx:=fun W=>run_storeCells_new (P:=prog) W 133 wY x (by rw[lM];rfl) (by rw[hx];exact ef);rw[<-hx]at hcell;have HX:=O hx;have I9:=O (Br lM);have aex:x[12]?=some (.slice ad ws[k].a.dom.length cd):=by rw[hx, <-yc];rfl
   clear hx;obtain⟨av,cv,Vy⟩:=cW.form;subst Vy;rw[ai,wV.len,aJ,dP hk]at cW ⊢;have gX:Fr aS wr (wr.alloc (.cells x.toArray 133)):=(ae aS wr).alloc _;have J3:(wr.alloc (.cells x.toArray 133)).heap[wr.heap.size]?=some (.cells x.toArray 133 (0,0)):=aC _ _
   have c12:(wr.alloc (.cells x.toArray 133)).cell? ⟨wr.heap.size,12,none⟩=some (.slice ad ws[k].a.dom.length cd):=by simp only[World.cell?,J3];simpa using aex
   have oF:=hr.mono (fun _ _ h=>h.dm gX);have yf:=oF.2.2.2.2.2.2.2.2.2.2;rw[yc]at yf;have CL:=O (rY base _ _ _ yf);go_wp2_with (first|((with_reducible refine dr 14 ?_);refine aY rfl 133 (.tmp 13) rfl bk (k*13) rfl x _ hcell underlying133 rfl I9.o ?_)|fail)
   have sI:=O (cP.trans gX);have fG:=cW.alloc (.cells x.toArray 133);have Eg:=wV.mono (fun _ _ h=>h.mono (fun _ _ h=>h.dm gX));have kj:w.heap.size<=wr.heap.size:=cP.size;have aoC:=cW.lt;clear jx hcell hr cW wV cP yf gX;generalize wr.alloc (.cells x.toArray 133)=W2 at *
   refine CL.o.mono ?_;rintro e u1⟨a2,c2,rfl,Cy,dk⟩;have qw:=dk.keep J3 id;have rP:=oF.mono (fun _ _ h=>h.dm dk);have fC:=fG.fr dk (fun _ _ h=>h);have Eh:=Eg.mono (fun _ _ h=>h.mono (fun _ _ h=>h.dm dk));have R0:=sI.o.trans dk;have aiU:u1.cell? ⟨wr.heap.size,12,none⟩=some (.slice ad ws[k].a.dom.length cd):=by simp only[World.cell?,qw];simpa using aex
   have f12:u1.frozen? ⟨wr.heap.size,12,none⟩=false:=by simp[World.frozen?,qw]
   have kJ:=cq qw 12 (.slice a2 ws[k].a.dom.length c2);have hye:x.toArray.setIfInBounds 12 (.slice a2 ws[k].a.dom.length c2)=(r.ng (.slice a2 ws[k].a.dom.length c2)).cells.toArray:=by rw[HX.o];rfl
   rw[hye]at kJ;have rZ:sG base u1 (one wr.heap.size):=by
    rintro j rfl hj;exact⟨ab,fun c f e=>by rw[qw]at e;cases e⟩
   have kR:Fr (one wr.heap.size) u1 (u1.setCell ⟨wr.heap.size,12,none⟩ (.slice a2 ws[k].a.dom.length c2)):=(ae (one wr.heap.size) u1).setCell (p:=⟨wr.heap.size,12,none⟩) (fun _=>rfl) _;have AY:∀j,(Value.slice av k cv).ownBlock=some j->¬one wr.heap.size j:=by
    rintro j hj rfl;have:=aoC _ hj;omega
   have fU:=R0.gN (p:=⟨wr.heap.size,12,none⟩) kj (.slice a2 ws[k].a.dom.length c2);have wh:(r.ng (.slice a2 ws[k].a.dom.length c2)).Reads (dx base (u1.setCell ⟨wr.heap.size,12,none⟩ (.slice a2 ws[k].a.dom.length c2))) ws[k] :=
    ⟨rP.1,rP.2.1,rP.2.2.1,rP.2.2.2.1,rP.2.2.2.2.1,rP.2.2.2.2.2.1,rP.2.2.2.2.2.2.1,rP.2.2.2.2.2.2.2.1,rP.2.2.2.2.2.2.2.2.1,rP.2.2.2.2.2.2.2.2.2.1,Cy.fr kR rZ⟩
   have fg:=fC.fr kR AY;have Om:=Eh.mono (fun _ _ h=>h.mono (fun _ _ h=>h.fr kR rZ));have Es:∀u∈(r.ng (.slice a2 ws[k].a.dom.length c2)).cells,u.oneCell'=true:=by
    intro u hu;simp only[bK.cells,bK.ng,bC,cA,dY]at hu;rcases hu with rfl|rfl|rfl|rfl|rfl|rfl|rfl|rfl|rfl|rfl|rfl|rfl|rfl<;>rfl
   obtain⟨y,hy⟩:∃y,y=(r.ng (.slice a2 ws[k].a.dom.length c2)).cells:=⟨_,rfl⟩;have Du:y.length=13:=by rw[hy];rfl
   rw[<-hy]at Es kJ;have HY:=O hy;have qj:=O kJ;have HYI:=O (Br Du);have Ei:=O fg;have GV:=wJ y wY (by rw[Du];rfl);have hbw:w.heap.size<=(u1.setCell ⟨wr.heap.size,12,none⟩ (.slice a2 ws[k].a.dom.length c2)).heap.size:=fU.size;have VM:=O (show(u1.setCell ⟨wr.heap.size,12,none⟩ (.slice a2 ws[k].a.dom.length c2)).heap.size=u1.heap.size by simp[World.setCell]);have avt:w.heap.size<=u1.heap.size:=R0.size
   have vN:=Om.len;rw[aJ,dP hk]at vN;have N7:(rs.map bK.cells).length<68719476736:=by rw[ai,vN];omega
   have Yw:=O wh;have aiW:=O Om;have aoD:=O fU;clear vN rP oF fG fC Eg Eh J3 qw rZ kR AY Cy hye hy aex c12 CL fg Om wh fU R0 dk kJ sI yc
   go_wp2_with (first|((with_reducible refine dr 22 ?_);refine aI rfl 133 (.tmp 5) rfl wr.heap.size rfl _ y.toArray (0,0) _ qj.o underlying133 rfl (by rw[aX];exact HYI.o) ?_)|(at_builtin;refine nY rfl _ _ 87 133 rfl 13 168 (.agg wY) underlying87 G1 rfl ag ag w.heap.size (.slice av k cv) (rs.map bK.cells) rfl (Ei.o.alloc _) u1.heap.size 1 y rfl Du Es (fun i u hi=>by rw[<-VM.o,World.cell?_alloc_mark];simpa using hi) N7 bH ?_;intro v' w4 fg CC))
   have Fw:=Fr.Qa _ CC;have nd:=Ei.o.off (base:=base) iL ag;rw[HY.o]at fg;refine⟨⟨k+1,rs++[r.ng (.slice a2 ws[k].a.dom.length c2)],ab,bg,by rw[bI];exact fg,?_,aoD.o.step Fw (fun j hj hS=>by have h2:=Ei.o.block j hS;omega)⟩,by simp[intOf];omega⟩;rw[d_ (List.getElem?_eq_getElem fe)];exact(aiW.o.mono (fun _ _ h=>h.mono (fun _ _ h=>h.fr Fw nd))).app (.cons (Yw.o.mono (fun _ _ h=>h.fr Fw nd)) .nil)
  ·rw[aD ab]at wV;obtain⟨av,cv,Vy⟩:=cW.form;subst Vy;go_wp2;go_ret;exact⟨_,rfl,⟨⟨rs,cW.up iL,wV⟩,cW.block⟩,cP⟩
def LM(base:Nat)(w:World)(gs:List (aQ bE))(ws:List (bK bE))(e:Ending)(w':World):Prop :=
 ∃b gv wv,e=.returned (.pointer (some ⟨b,0,none⟩))/\dH base w' b gv wv gs ws/\Fr aS w w'/\∀k,dy b gv wv k->w.heap.size<=k
theorem VN(base:Nat)(w:World)(b:Nat)(gv wv:Value)(gs:List (aQ bE))(ws:List (bK bE))(h:dH base w b gv wv gs ws)(Oa:gs.length<68719476736)(Fq:ws.length<68719476736) :
  aB 79 #[.pointer (some ⟨b,0,none⟩)] w (LM base w gs ws):=by
 have sS:=h.lt;have lD:=h.low;go_enter func79,ntmps79;go_wp2_with fail
 refine(Ef base w b gv wv gs ws h Oa).mono ?_;intro e u1 hp;obtain⟨v1,rfl,⟨Ge,J5⟩,dk⟩:=hp;go_wp2_with fail
 refine(G3 base u1 b gv wv gs ws (h.dm dk) Fq).mono ?_;intro e u2 hp;obtain⟨v2,rfl,⟨xT,C7⟩,dE⟩:=hp;obtain⟨a1,c1,FC⟩:=Ge.form;obtain⟨a2,c2,hv2⟩:=xT.form;subst FC hv2;have Cy:=dk.size;have Nf:=dE.size;have gX:Fr aS u2 (u2.alloc (.cells #[.slice a1 gs.length c1,.slice a2 ws.length c2] 89)):=(ae aS u2).alloc _
 have HB:=O (show dH base (u2.alloc (.cells #[.slice a1 gs.length c1,.slice a2 ws.length c2] 89)) u2.heap.size (.slice a1 gs.length c1) (.slice a2 ws.length c2) gs ws from
  ⟨ab,aC _ _,(Ge.fr dE (fJ _ _) (fun _ _ h=>h)).fr gX (fJ _ _) (fun _ _ h=>h),xT.fr gX (fJ _ _) (fun _ _ h=>h)⟩)
 have HF:=O ((dk.trans dE).trans gX);have HN:=O (show∀k,dy u2.heap.size (.slice a1 gs.length c1) (.slice a2 ws.length c2) k->w.heap.size<=k from fun k hk=>by
  rcases hk with rfl|hk|hk
  ·omega
  ·exact J5 k hk
  ·have:=C7 k hk;omega)
 clear Ge xT J5 C7 gX h;go_wp2;go_ret;exact⟨_,_,_,rfl,HB.o,HF.o,HN.o⟩
theorem dx.aoH(base:Nat)(w:World)(x:aj):dx base (w.alloc (.cells #[.string x] 9)) (.slice (some ⟨w.heap.size,0,none⟩) 1 1) [x]:=by
 refine⟨Or.inr ⟨w.heap.size,0,1,rfl,ay _,by simp[maxLen],aR,fun j z hj=>?_⟩,fun k hk _=>?_,aR⟩
 ·rw[bz,World.cell?_alloc_mark]
  match j,hj with
  |0,hj=>simp at hj;subst hj;rfl
 ·simp[Value.ownBlock]at hk;subst hk;exact⟨aR,Or.inr ⟨_,_,aC _ _⟩⟩
