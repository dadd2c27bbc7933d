/- Lemmas for the law's walk. -/
import Derived.Test.YtjndhcngnghpiaaGreatDoorPn8
import Derived.Deep.AppendLies
set_option maxRecDepth 100000
set_option maxHeartbeats 16000000
set_option linter.unusedSimpArgs false
namespace Go.Proofs.YtjndhcngnghpiaaGreatDoor
open Go.Proofs.Tryz
open Go.RowKit
variable {b k g base c i:Nat} {e:TypeId} {w:World} {v:Value} {xs:cY} {t:aj} {ps:List jn} {n W z l:Bs}
theorem OwnRows.kind(h:OwnRows b e k w v xs)(hg:own v g):∃c,w.heap[g]?=some (.cells c e (0,0)):=by
 obtain⟨cap,cur,_,_,h2,_⟩:=h.open hg;exact⟨cur,h2⟩
def dv(b:Nat)(gv wv:Value):dB:=fun k=>k=b\/own gv k\/own wv k
section
variable {base : Nat} {w w' : World} {b : Nat} {gv wv : Value} {gs : List (aP bE)} {ws : List (bI bE)}
theorem dD.tN(h:dD base w b gv wv gs ws)(hk:own gv k):∃c,w.heap[k]?=some (.cells c 133 (0,0)):=by
 obtain⟨rs,h1,_⟩:=h.bU;exact h1.kind hk
theorem dD.vP(h:dD base w b gv wv gs ws)(hk:own wv k):∃c,w.heap[k]?=some (.cells c 129 (0,0)):=by
 obtain⟨rs,h1,_⟩:=h.waits;exact h1.kind hk
theorem dD.gw(h:dD base w b gv wv gs ws)(hk:own gv k):¬own wv k:=by
 intro h2;obtain⟨c,e1⟩:=h.tN hk;obtain⟨d,e2⟩:=h.vP h2;rw[e1]at e2;cases e2
theorem dD.gb(h:dD base w b gv wv gs ws):¬own gv b:=by
 intro h2;obtain⟨c,e1⟩:=h.tN h2;have e2:=h.eJ;rw[e1]at e2;cases e2
theorem dD.wb(h:dD base w b gv wv gs ws):¬own wv b:=by
 intro h2;obtain⟨c,e1⟩:=h.vP h2;have e2:=h.eJ;rw[e1]at e2;cases e2
theorem dD.ahA(h:dD base w b gv wv gs ws)(hk:own gv k):base<=k:=by
 obtain⟨rs,h1,_⟩:=h.bU;exact h1.block k hk
theorem dD.ahB(h:dD base w b gv wv gs ws)(hk:own wv k):base<=k:=by
 obtain⟨rs,h1,_⟩:=h.waits;exact h1.block k hk
theorem dD.off(h:dD base w b gv wv gs ws):rR base w (dv b gv wv):=by
 intro k hk _;rcases hk with rfl|hk|hk
 ·exact⟨h.low,fun c f e=>by rw[h.eJ]at e;cases e⟩
 ·obtain⟨c,e1⟩:=h.tN hk;exact⟨h.ahA hk,fun c f e=>by rw[e1]at e;cases e⟩
 ·obtain⟨c,e1⟩:=h.vP hk;exact⟨h.ahB hk,fun c f e=>by rw[e1]at e;cases e⟩
end
def kr(base:Nat)(w:World)(b:Nat)(gv wv:Value)(gs:List (aP bE))(ws:List (bI bE))(w':World):Prop :=
 ∃gv' wv',dD base w' b gv' wv' gs ws/\Fr (dv b gv wv) w w'/\∀k,dv b gv' wv' k->dv b gv wv k\/w.heap.size<=k
def DE(go:gq)(gx:Bool)(gr:aj)(o:gq)(proxy:Bool)(aK:aj):Bool:=go.kV o&&(gx==proxy&&gr.toList==aK.toList)
def mS(o:gq)(proxy:Bool)(aK:aj)(g:aP bE):Bool:=DE g.o g.proxy g.a.aK o proxy aK
def KC(o:gq)(proxy:Bool)(aK:aj)(x:aX):Bool:=DE (agw x) (cB x 3) (cS x 7) o proxy aK
theorem KD(g:aP Value)(o:gq)(proxy:Bool)(aK:aj)(w:World) :
  aB 116 #[.agg g.cells.toArray,.agg o.cells.toArray,.bool proxy,.string aK] w fun e w'=>e=.returned (.bool (DE g.o g.proxy g.a.aK o proxy aK))/\Fr aS w w':=by
 have heq:=jo g.o o;unfold aP.cells gq.cells;cases e1:g.o.kV o
 ·have HR:=O (show DE g.o g.proxy g.a.aK o proxy aK=false by unfold DE;rw[e1];rfl);go_enter func116,ntmps116;go_wp2;go_ret;exact⟨by rw[HR.o];rfl,((ae _ _).alloc _).alloc _⟩
 ·have HR:=O (show DE g.o g.proxy g.a.aK o proxy aK=(g.proxy==proxy&&g.a.aK.toList==aK.toList)by unfold DE;rw[e1];rfl);cases e2:g.proxy==proxy
  ·go_enter func116,ntmps116;go_wp2;go_ret;exact⟨by rw[HR.o,e2];rfl,((ae _ _).alloc _).alloc _⟩
  ·go_enter func116,ntmps116;go_wp2;go_ret;exact⟨by rw[HR.o,e2];rfl,((ae _ _).alloc _).alloc _⟩
theorem Q'(g:aP Value)(dX:∀u∈g.cells,u.oneCell'=true)(o:gq)(proxy:Bool)(aK:aj)(bo bp br:Nat)(w:World)(ho:w.heap[bo]?=some (.cells #[.bool o.aE,.string o.host,.int .i64 o.port] 24 (0,0)))
  (hp:w.heap[bp]?=some (.cells #[.bool proxy] 4 (0,0)))(hr:w.heap[br]?=some (.cells #[.string aK] 9 (0,0))) :
  aB 115 #[.agg g.cells.toArray,.pointer (some ⟨bo,0,none⟩),.pointer (some ⟨bp,0,none⟩),.pointer (some ⟨br,0,none⟩)] w fun e w'=>e=.returned (.bool (KC o proxy aK g.cells))/\Fr aS w w':=by
 obtain⟨x,hx⟩:∃x,x=g.cells:=⟨_,rfl⟩;have lp:x.length=16:=by rw[hx];rfl
 have HX:=O hx;have Dx:=O (Hx lp);have jq:=fun W=>run_storeCells_new (P:=prog) W 133 #[.bool false,.string ⟨#[]⟩,.int .i64 0,.bool false,.string ⟨#[]⟩,.string ⟨#[]⟩,.int .i64 0,.string ⟨#[]⟩,.string ⟨#[]⟩,.string ⟨#[]⟩,.bool false,.string ⟨#[]⟩,.bool false,.slice none 0 0,.int .i64 0,.slice none 0 0] x (by rw[lp];rfl) (by rw[hx];exact dX)
 have gO:Fr aS w (w.alloc (.cells x.toArray 133)):=(ae aS w).alloc _;have qN:=O (gO.keep ho id);have CS:=gO.keep hp id;have ob:=gO.keep hr id;have cp:(w.alloc (.cells x.toArray 133)).cell? ⟨bp,0,none⟩=some (.bool proxy):=by simp only[World.cell?,CS];rfl
 have cr:(w.alloc (.cells x.toArray 133)).cell? ⟨br,0,none⟩=some (.string aK):=by simp only[World.cell?,ob];rfl
 have fB:=O (KD g o proxy aK (w.alloc (.cells x.toArray 133)));rw[<-hx];rw[<-hx]at fB;clear hx ho hp hr CS ob;go_enter func115,ntmps115
 go_wp2_with (first|((with_reducible refine dk 6 ?_);refine aI rfl 133 (.tmp 4) rfl w.heap.size rfl _ x.toArray (0,0) _ (aC w _) underlying133 rfl (by rw[aZ];exact Dx.o) ?_)|((with_reducible refine dk 7 ?_);refine aI rfl 24 (.tmp 1) rfl bo rfl _ _ (0,0) _ qN.o underlying24 rfl af ?_)|fail)
 refine fB.o.mono ?_;rintro e w2⟨rfl,dz⟩;go_wp2;go_ret;rw[HX.o];exact⟨rfl,gO.trans dz⟩
theorem ES(S:dB)(w:World)(o:gq)(proxy:Bool)(aK:aj)(bo bp br:Nat)(rs:List (aP Value))(dX:∀r∈rs,∀u∈r.cells,u.oneCell'=true)
  (ho:w.heap[bo]?=some (.cells #[.bool o.aE,.string o.host,.int .i64 o.port] 24 (0,0)))(hp:w.heap[bp]?=some (.cells #[.bool proxy] 4 (0,0)))(hr:w.heap[br]?=some (.cells #[.string aK] 9 (0,0)))
  (h1:¬S bo)(h2:¬S bp)(h3:¬S br) :
  gL S w 115 #[.pointer (some ⟨bo,0,none⟩),.pointer (some ⟨bp,0,none⟩),.pointer (some ⟨br,0,none⟩)] (KC o proxy aK) (rs.map aP.cells):=by
 intro x hx u hu;obtain⟨r,hr0,rfl⟩:=bZ.1 hx;exact Q' r (dX r hr0) o proxy aK bo bp br u (hu.keep ho h1) (hu.keep hp h2) (hu.keep hr h3)
theorem dD.ahC{base:Nat}{w:World}{b:Nat}{gv0 gv wv:Value}{gs:List (aP bE)}{ws:List (bI bE)}(hl:base<=b)(hb:w.heap[b]?=some (.cells #[gv0,wv] 118 (0,0)))(hg:fZ base w gv gs)(hw:jY base w wv ws) :
  dD base (w.setCell ⟨b,0,none⟩ gv) b gv wv gs ws:=by
 have rG:rR base w (one b):=by
  rintro k rfl _;exact⟨hl,fun c f e=>by rw[hb]at e;cases e⟩
 have kx:Fr (one b) w (w.setCell ⟨b,0,none⟩ gv):=(ae (one b) w).setCell (p:=⟨b,0,none⟩) (fun _=>rfl) _;refine⟨hl,b_ hb 0 gv,hg.fr kx rG ?_,hw.fr kx rG ?_⟩
 ·rintro k hk rfl;obtain⟨rs,h1,_⟩:=hg;obtain⟨c,e⟩:=h1.kind hk;rw[hb]at e;cases e
 ·rintro k hk rfl;obtain⟨rs,h1,_⟩:=hw;obtain⟨c,e⟩:=h1.kind hk;rw[hb]at e;cases e
theorem dD.adq{wv0 gv wv:Value}{gs:List (aP bE)}{ws:List (bI bE)}(hl:base<=b)(hb:w.heap[b]?=some (.cells #[gv,wv0] 118 (0,0)))(hg:fZ base w gv gs)(hw:jY base w wv ws) :
  dD base (w.setCell ⟨b,1,none⟩ wv) b gv wv gs ws:=by
 have rG:rR base w (one b):=by
  rintro k rfl _;exact⟨hl,fun c f e=>by rw[hb]at e;cases e⟩
 have kx:Fr (one b) w (w.setCell ⟨b,1,none⟩ wv):=(ae (one b) w).setCell (p:=⟨b,1,none⟩) (fun _=>rfl) _;refine⟨hl,b_ hb 1 wv,hg.fr kx rG ?_,hw.fr kx rG ?_⟩
 ·rintro k hk rfl;obtain⟨rs,h1,_⟩:=hg;obtain⟨c,e⟩:=h1.kind hk;rw[hb]at e;cases e
 ·rintro k hk rfl;obtain⟨rs,h1,_⟩:=hw;obtain⟨c,e⟩:=h1.kind hk;rw[hb]at e;cases e
theorem fZ.zv{base:Nat}{w:World}{v:Value}{rs:List (aP Value)}{gs:List (aP bE)}{p:aX->Bool}{q:aP bE->Bool}(h1:OwnRows base 133 16 w v ((rs.map aP.cells).filter (fun x=>!p x)))(h2:kT (aP.Reads (du base w)) rs gs)
  (hpq:∀r g,aP.Reads (du base w) r g->p r.cells=q g):fZ base w v (gs.filter (fun g=>!q g))/\((rs.map aP.cells).filter (fun x=>!p x)).length=(gs.filter (fun g=>!q g)).length:=by
 have hb:kT (aP.Reads (du base w)) (rs.filter (fun r=>!p r.cells)) (gs.filter (fun g=>!q g)):=h2.filter (fun r g h=>by rw[hpq r g h]);have he:(rs.map aP.cells).filter (fun x=>!p x)=(rs.filter (fun r=>!p r.cells)).map aP.cells:=by rw[List.filter_map];rfl
 refine⟨⟨_,by rw[he]at h1;exact h1,hb⟩,?_⟩;rw[he,ai,hb.len]
theorem BD{r:aP Value}{g:aP bE}(h:aP.Reads (du base w) r g)(o:gq)(proxy:Bool)(aK:aj):KC o proxy aK r.cells=mS o proxy aK g:=by
 obtain⟨h1,h2,_,_,⟨_,h3,_⟩,_⟩:=h;unfold mS;rw[<-h1, <-h2, <-h3];rfl
def vQ(base:Nat)(w:World)(b:Nat)(gv wv:Value)(gs:List (aP bE))(ws:List (bI bE))(q:aP bE->Bool)(e:Ending)(w':World):Prop :=
 e=.returned (.bool (decide ((gs.filter (fun g=>!q g)).length<gs.length)))/\kr base w b gv wv (gs.filter (fun g=>!q g)) ws w'
theorem zw(base:Nat)(w:World)(b:Nat)(gv wv:Value)(gs:List (aP bE))(ws:List (bI bE))(o:gq)(proxy:Bool)(aK:aj)(h:dD base w b gv wv gs ws) :
  aB 75 #[.pointer (some ⟨b,0,none⟩),.agg o.cells.toArray,.bool proxy,.string aK] w (vQ base w b gv wv gs ws (mS o proxy aK)):=by
 unfold gq.cells;obtain⟨av,cv,hv⟩:=h.bU.form;subst hv;have tV:=h.lt;have k_:=h.low;have oW:Fr aS w _:=(((ae aS w).alloc (.cells #[.bool o.aE,.string o.host,.int .i64 o.port] 24)).alloc (.cells #[.bool proxy] 4)).alloc (.cells #[.string aK] 9)
 have b0:(((w.alloc (.cells #[.bool o.aE,.string o.host,.int .i64 o.port] 24)).alloc (.cells #[.bool proxy] 4)).alloc (.cells #[.string aK] 9)).heap[w.heap.size]?=some (.cells #[.bool o.aE,.string o.host,.int .i64 o.port] 24 (0,0)):=by
  rw[Below.heap_alloc _ _ _ bH,Below.heap_alloc _ _ _ aR];exact aC _ _
 have b1:(((w.alloc (.cells #[.bool o.aE,.string o.host,.int .i64 o.port] 24)).alloc (.cells #[.bool proxy] 4)).alloc (.cells #[.string aK] 9)).heap[w.heap.size+1]?=some (.cells #[.bool proxy] 4 (0,0)):=by
  rw[Below.heap_alloc _ _ _ aR];have h:=aC (w.alloc (.cells #[.bool o.aE,.string o.host,.int .i64 o.port] 24)) (.cells #[.bool proxy] 4);simpa using h
 have b2:(((w.alloc (.cells #[.bool o.aE,.string o.host,.int .i64 o.port] 24)).alloc (.cells #[.bool proxy] 4)).alloc (.cells #[.string aK] 9)).heap[w.heap.size+2]?=some (.cells #[.string aK] 9 (0,0)):=by
  have h:=aC ((w.alloc (.cells #[.bool o.aE,.string o.host,.int .i64 o.port] 24)).alloc (.cells #[.bool proxy] 4)) (.cells #[.string aK] 9);simpa using h
 have h1:=h.di oW;have h0:=h1.c0;have B0:=O b0;have B1:=O b1;have B2:=O b2;clear b0 b1 b2;go_enter func75,ntmps75;go_wp2_with fail
 clear h0;generalize ((w.alloc (.cells _ 24)).alloc _).alloc _=W at *
 obtain⟨rs,Az,qN⟩:=h1.bU;have dX:∀r∈rs,∀u∈r.cells,u.oneCell'=true:=fun r hr=>(Az.1 r.cells (bZ.2 ⟨r,hr,rfl⟩)).2;have hW:w.heap.size<=W.heap.size:=oW.size;have Xz:∀k,own (.slice av gs.length cv) k->k<w.heap.size:=fun k hk=>by
  obtain⟨c,e⟩:=h.tN hk;exact bj e
 have hd:=O (xo base 115 #[.pointer (some ⟨w.heap.size,0,none⟩),.pointer (some ⟨w.heap.size+1,0,none⟩),.pointer (some ⟨w.heap.size+1+1,0,none⟩)] (KC o proxy aK) _ _ W call115
  (ES _ W o proxy aK w.heap.size (w.heap.size+1) (w.heap.size+1+1) rs dX B0.o B1.o B2.o (fun hk=>by have:=Xz _ hk;omega) (fun hk=>by have:=Xz _ hk;omega) (fun hk=>by have:=Xz _ hk;omega)) Az)
 refine hd.o.mono ?_;rintro e w2⟨a2,c2,rfl,xN,dz,fA⟩;have US:=qN.mono (fun _ _ h=>h.mono (fun _ _ h=>h.fr dz (fun k hk hl=>h1.off k (Or.inr (Or.inl hk)) hl)));obtain⟨Xt,Nn⟩:=fZ.zv xN US (fun r g h=>BD h o proxy aK);rw[Nn]at Xt fA ⊢;have ko:=dz.keep h1.eJ h1.gb;have eA:=h1.waits.fr dz (fun k hk hl=>h1.off k (Or.inr (Or.inl hk)) hl) (fun k hk hg=>h1.gw hg hk);have qH:=O (dD.ahC k_ ko Xt eA)
 have c0:w2.cell? ⟨b,0,none⟩=some (.slice av gs.length cv):=by simp[World.cell?,ko]
 have f0:w2.frozen? ⟨b,0,none⟩=false:=by simp[World.frozen?,ko]
 have YV:Fr (dv b (.slice av gs.length cv) wv) w w2:=fU (oW.mono (fun _ _ h=>absurd h id)) dz (fun k _ hk=>Or.inr (Or.inl hk));have HB:=YV.setCell (p:=⟨b,0,none⟩) (fun _=>Or.inl rfl) (.slice a2 (gs.filter (fun g=>!mS o proxy aK g)).length c2);have kX:∀k,dv b (.slice a2 (gs.filter (fun g=>!mS o proxy aK g)).length c2) wv k->dv b (.slice av gs.length cv) wv k\/w.heap.size<=k:=by
  intro k hk;unfold dv at hk;rw[fA]at hk;exact Or.inl hk
 clear hd Az qN US xN ko eA Xt h1 dX Xz Nn YV;obtain⟨fs,kx⟩:∃fs,fs=gs.filter (fun g=>!mS o proxy aK g):=⟨_,rfl⟩;rw[<-kx]at qH fA HB kX ⊢;have UT:=O kx;clear kx;go_wp2_with fail
 go_ret;unfold vQ;rw[<-UT.o];exact⟨fy aR,_,_,qH.o,HB,kX⟩
abbrev nF := @dD.ahC
theorem Ro(a:fI bE)(x:ni):a.scheme<=(pE a x).scheme:=by
 unfold pE;split
 ·exact gV _
 ·split
  ·omega
  ·exact gV _
theorem Zm:∀(l:List ni) (a:fI bE),a.scheme<=(l.foldl pE a).scheme
 |[],_=>gV _
 |x :: l,a=>Int.le_trans (Ro a x) (Zm l (pE a x))
theorem PT:∀(l:List ni) (a:fI bE),l.foldl pE a=a\/∃x∈l,mU x=some (l.foldl pE a)
 |[],_=>Or.inl rfl
 |x :: l,a=>by
  rw[List.foldl_cons];rcases PT l (pE a x)with h|⟨y,hy,h⟩
  ·rw[h];unfold pE;split
   ·exact Or.inl rfl
   ·rename_i b hb;split
    ·exact Or.inr ⟨x,cX .., hb⟩
    ·exact Or.inl rfl
  ·exact Or.inr ⟨y,bP _ hy,h⟩
def SB(p:gY):Bool:=decide ((300:Int)<(p.1.size:Int)+(p.2.size:Int))
def Mf(ps:List gY):Bool:=decide (ps.length<=40)&&!(ps.any SB)
def Qi:aX->gY
 |[.string a,.string b]=>(a,b)
 |_=>(ByteArray.empty,ByteArray.empty)
theorem aaE(v:Value)(ps:List gY)(w:World)(hv:oD w v ps)(hl:ps.length<=140737488355328)(hz:∀p∈ps,p.1.size<=140737488351232/\p.2.size<=140737488351232) :
  aB 38 #[v] w fun e w'=>e=.returned (.bool (Mf ps))/\Fr aS w w':=by
 obtain⟨av,cv,fH⟩:=hv.form;rw[ai]at fH;subst fH;have Mw:=O (Cd _ #[] (fun x=>SB (Qi x)) _ _ w call67 (fun x hx u _=>by
  obtain⟨p,hp,rfl⟩:=bZ.1 hx;exact WW p.1 p.2 u (hz p hp).1 (hz p hp).2) hv)
 have ja:=O (show(ps.map gY.cells).any (fun x=>SB (Qi x))=ps.any SB by rw[List.any_map];rfl);by_cases GW:ps.length<=40
 ·have hb:=O (show Mf ps=!(ps.any SB)by unfold Mf;rw[bL GW];rfl);have i40:(ps.length:Int)<=40:=ab;have d40:decide ((ps.length:Int)<=40)=true:=bL i40;go_enter func38,ntmps38;go_wp2_with fail
  refine Mw.o.mono ?_;rw[ja.o];rintro e u⟨rfl,hf⟩;go_wp2;go_ret;exact⟨fy hb.o.symm,hf⟩
 ·have hb:=O (show Mf ps=false by unfold Mf;rw[bD GW];rfl);have i40:¬(ps.length:Int)<=40:=ab;have d40:decide ((ps.length:Int)<=40)=false:=bD i40;go_enter func38,ntmps38;go_wp2;go_ret;exact⟨fy hb.o.symm,ae _ _⟩
def tE(l:Bs):Bs:=if l.getLast?=some 13 then l.dropLast else l
def trimB(l:Bs):Bs:=Lib.trimS l [32,9]
def CT(l:Bs):Option (Option jn) :=
 if(tE l).isEmpty then some none
 else if !(mz 58 (tE l)).2.2||!Ar (mz 58 (tE l)).1 then none
 else some (some ((mz 58 (tE l)).1,trimB (mz 58 (tE l)).2.1))
def kJ:List Bs->List jn->Except Nat (List jn)
 |[],acc=>.ok acc
 |l :: ls,acc =>
  match CT l with
  |none=>.error 3
  |some none=>kJ ls acc
  |some (some p)=>if acc.length=40 then .error 4 else kJ ls (acc++[p])
def mK(s:Bs):Except Nat (List jn):=if 3000<s.length then .error 4 else kJ (dY 10 s) []
def xO(ps:List jn)(n:Bs):List Bs:=(ps.filter fun p=>dH p.1 n).map (·.2)
def lg(ps:List jn)(n:Bs):Bs:=Lib.join (xO ps n) [44,32]
def qo(ps:List jn)(n:Bs):Bool:=!(xO ps n).isEmpty
theorem Yn(x y:Bs)(l:List Bs)(sep:Bs):Lib.join (x :: y :: l) sep=x++(sep++Lib.join (y :: l) sep):=by
 simp[Lib.join,List.intercalate]
def qQ:Bs:=[65,99,99,101,115,115,45,67,111,110,116,114,111,108,45,65,108,108,111,119,45,79,114,105,103,105,110]
def J5:Bs:=[65,99,99,101,115,115,45,67,111,110,116,114,111,108,45,65,108,108,111,119,45,67,114,101,100,101,110,116,105,97,108,115]
def J6:Bs:=[65,99,99,101,115,115,45,67,111,110,116,114,111,108,45,65,108,108,111,119,45,77,101,116,104,111,100,115]
def xP:Bs:=[65,99,99,101,115,115,45,67,111,110,116,114,111,108,45,65,108,108,111,119,45,72,101,97,100,101,114,115]
def Ha:Bs:=[65,99,99,101,115,115,45,67,111,110,116,114,111,108,45,77,97,120,45,65,103,101]
def MR(t:Bs)(fN:Bool)(ps:List jn):Bool :=
 if !qo ps qQ then false
 else if(lg ps qQ== [42])&&!fN then true
 else if lg ps qQ !=t then false
 else !fN||(lg ps J5==lN)
def mW(ps:List jn):Int:=if qo ps Ha then(if oC (lg ps Ha)then min (yR (lg ps Ha)) 600 else 5)else 5
theorem MT(ps:List jn):0<=mW ps/\mW ps<=600/\(qo ps Ha=true\/mW ps=5):=by
 unfold mW;split
 ·rename_i h;split
  ·rename_i hd;unfold oC at hd;simp only[cF]at hd;have:=xK (lg ps Ha) 0 hd.2 ag ag;unfold yR;exact⟨ab,ab,Or.inl h⟩
  ·exact⟨ag,ag,Or.inl h⟩
 ·exact⟨ag,ag,Or.inr rfl⟩
def kS(ps:List jn)(n:Bs):Option (List Bs) :=
 match gU (lg ps n)with
 | .error _=>none
 | .ok l=>if 40<l.length then none else some l
def p9(ps:List ef)(p:ef):List ef:=if ps.any (fun q=>q.kV p)then ps else ps++[p]
def qO.CU(r:qO)(pL:Int)(m h:aj):ef:=⟨r.cW,r.o,r.path,r.query,r.fN,m,h,pL⟩
def qO.methods(r:qO)(ms:List Bs):List aj:=if ms.isEmpty then [jD r.method]else ms.map bA
def qO.bU(r:qO)(pL:Int)(ms hs:List Bs):List ef :=
 (hs.map fun h=>r.CU pL (bA []) (bA (nk h))).foldl p9 ((r.methods ms |>.map fun m=>r.CU pL m (bA [])).foldl p9 [])
def ug(r:qO)(t:Bs)(ps:List jn)(now:Int):Except Nat (List ef) :=
 match kS ps J6,kS ps xP with
 |some ms,some hs =>
  if !MR t r.fN ps then .error 6
  else if !r.mV (r.bU (now+mW ps) ms hs)then .error 6
  else .ok (r.bU (now+mW ps) ms hs)
 |_,_=>.error 3
def xi(n p:Nat)(e:Ending)(w':World):Prop :=
 ∃g,e=.returned (.iface 220 (.pointer (some ⟨g,0,none⟩)))/\w'.heap[g]?=some (.cells #[.int .i64 n,.int .i64 p] 222 (0,0))
theorem xi.new(n p:Nat)(w:World):xi n p (.returned (.iface 220 (.pointer (some ⟨w.heap.size,0,none⟩)))) (w.alloc (.cells #[.int .i64 n,.int .i64 p] 222 (0,0))):=⟨_,rfl,aC _ _⟩
theorem tF(b c i n:Nat)(s:aj)(v:Value)(w:World)(hr:iB w b c s v)(h:dw w c s i) :
  aB 168 #[.pointer (some ⟨b,0,none⟩),.int .i64 n] w fun e w'=>xi n i e w'/\Fr aS w w':=by
 have q0:=hr.cell0;go_enter func168,ntmps168;go_wp2_with fail
 refine(Aq c s i w h).mono ?_;rintro e w1⟨rfl,rfl⟩;go_wp2;go_ret;exact⟨xi.new n i w,(ae _ _).alloc _⟩
theorem mM(l:Bs):(bA l).toList=l:=toList_mk l
def od(p:jn):aX:=[.string (bA p.1),.string (bA p.2)]
def kz(w:World)(x:Nat)(sc tok:aj)(pv:Value):Prop:=w.heap[x]?=some (.cells #[.string sc,.string tok,pv] 208 (0,0))
section
variable {w w' : World} {x : Nat} {sc tok : ByteArray} {pv : Value}
theorem kz.cell0(h:kz w x sc tok pv):w.cell? ⟨x,0,none⟩=some (.string sc):=by simp[World.cell?,show w.heap[x]?=_ from h]
theorem kz.gW(h:kz w x sc tok pv):w.cell? ⟨x,1,none⟩=some (.string tok):=by simp[World.cell?,show w.heap[x]?=_ from h]
theorem kz.lO(h:kz w x sc tok pv):w.cell? ⟨x,2,none⟩=some pv:=by simp[World.cell?,show w.heap[x]?=_ from h]
theorem kz.free(h:kz w x sc tok pv)(k:Nat):w.frozen? ⟨x,k,none⟩=false:=by simp[World.frozen?,show w.heap[x]?=_ from h]
theorem kz.fr{S:dB}(h:kz w x sc tok pv)(hf:Fr S w w')(hn:¬S x):kz w' x sc tok pv:=hf.keep h hn
theorem kz.lt(h:kz w x sc tok pv):x<w.heap.size:=bj h
theorem kz.ne(h:kz w x sc tok pv)(g:dw w c t i):x≠c:=by
 intro e;subst e;have h':w.heap[x]?=_:=h;have g':w.heap[x]?=_:=g;rw[h']at g';simp at g'
theorem kz.neR(h:kz w x sc tok pv)(g:iB w b c t v):x≠b:=by
 intro e;subst e;have h':w.heap[x]?=_:=h;have g':w.heap[x]?=_:=g;rw[h']at g';simp at g'
end
theorem OwnRows.Bt(h:OwnRows base e k w v xs)(hg:v.ownBlock=some g):∃cur,w.heap[g]?=some (.cells cur e (0,0)):=by
 rcases h.2.2 with ⟨hv,_⟩|⟨g',cap,cur,hv,_,hh,_⟩
 ·rw[hv]at hg;simp[Value.ownBlock]at hg
 ·rw[hv]at hg;simp[Value.ownBlock]at hg;subst hg;exact⟨cur,hh⟩
theorem OwnRows.not{t:TypeId}{cs:bS}{f:Nat×Nat}(h:OwnRows base e k w v xs)(hb:w.heap[g]?=some (.cells cs t f))(ht:t≠e):v.ownBlock≠some g:=by
 intro hg;obtain⟨cur,hc⟩:=h.Bt hg;rw[hc]at hb;cases hb;exact ht rfl
def xj(w:World)(x:Nat)(a b:aj):Prop:=w.heap[x]?=some (.cells #[.string a,.string b] 142 (0,0))
def Hf(c x:Nat)(pv:Value):dB:=fun k=>k=c\/k=x\/pv.ownBlock=some k
def nX(base c x i:Nat)(s:aj)(ps:List jn)(sc tok:aj)(pv:Value)(w:World)(e:Ending)(w':World):Prop :=
 Fr (Hf c x pv) w w'/\match kR ps (s.data.toList.drop i)with
  | .error n=>∃p,xi n p e w'
  | .ok q=>e=.returned .nilIface/\∃j yA,j<=s.size/\dw w' c s j/\s.data.toList.drop j=q.2/\kz w' x sc tok yA/\OwnRows base 142 2 w' yA ((ps++[q.1]).map od)
theorem nX.bad{x n p:Nat}{s:aj}{sc tok:aj}{pv:Value}{w':World}{e:Ending}(h:kR ps (s.data.toList.drop i)=.error n)(hf:Fr (Hf c x pv) w w')(he:xi n p e w'):nX base c x i s ps sc tok pv w e w':=by
 refine⟨hf,?_⟩;rw[h];exact⟨p,he⟩
theorem Hg(s:aj)(i:Nat):s.data.toList.drop (eJ s (eJ s (I' s i)+1))=nC (s.data.toList.drop i):=by
 unfold nC;rw[<-vE, <-oF s (I' s i),ew,oF]
def acQ(base b c x P i:Nat)(s:aj)(v:Value)(ps:List jn)(sc tok:aj)(pv:Value)(W:Bs)(w wx:World):Prop :=
 ∃val j,j<=s.size/\dw wx c s j/\xj wx P (bA W) (bA val)/\iB wx b c s v/\kz wx x sc tok pv/\OwnRows base 142 2 wx pv (ps.map od)/\Fr (Hf c x pv) w wx /\
  kR ps (s.data.toList.drop i)=(if t_ ps W then .error 9 else if ps.length=16 then .error 4 else .ok ((W,val),s.data.toList.drop j))
theorem QF(l:Bs)(k:Nat):gJ l k=(Av (l.drop k)).map fun q=>(q.1,l.length-q.2.length):=by
 unfold gJ;rcases fF k l.length with h|h
 ·rw[List.getElem?_eq_getElem h,cR h];show _=Option.map _ (if l[k]==34 then vg (l.drop (k+1))else none);by_cases hq:l[k]=34
  ·rw[hq,aA rfl,aA bC];unfold sP;simp
  ·rw[ar (by simpa using hq),ar (by simpa using hq)];rfl
 ·rw[List.getElem?_eq_none h,cP h,ar aR];rfl
theorem Pn(l:Bs):(bA l).size=l.length:=rfl
def agI(ps:List jn)(W:Bs)(w:World)(t:Value)(wr:World):Prop:=∃k:Nat,k<=ps.length/\t=.int .i64 k/\(ps.take k).any (fun q=>dH q.1 W)=false/\Fr aS w wr
theorem vF{v:Bs}(h:ps[k]?=some (n,v))(hn:(ps.take k).any (fun q=>dH q.1 W)=false)(hp:dH n W=false):(ps.take (k+1)).any (fun q=>dH q.1 W)=false:=by
 rw[cC,h];simp only[List.any_append,hn,Option.toList_some,List.any_cons,hp,List.any_nil,Bool.or_false]
theorem T6{v:Bs}(h:ps[k]?=some (n,v))(hp:dH n W=true):t_ ps W=true:=by
 unfold t_;rw[List.any_eq_true];exact⟨_,cj h,hp⟩
theorem Ka:(prog.info? 142).map (fun i=>(i.zero,i.size,i.bytes))=some (some (.agg #[.string ⟨#[]⟩,.string ⟨#[]⟩]),2,32):=af
theorem Po(p:jn):∀u∈od p,u.oneCell'=true:=by
 intro u hu;simp only[od,bB,cz,dU]at hu;rcases hu with rfl|rfl<;>rfl
theorem T7(ps:List jn):∀x∈ps.map od,x.length=2/\∀u∈x,u.oneCell'=true:=by
 intro x hx;obtain⟨p,_,rfl⟩:=bZ.1 hx;exact⟨rfl,Po p⟩
theorem xR:∀(f:Nat) (r a z:Bs),r.length<=f->vg r=some (a,z)->z <:+ r
 |0,r,a,z,hf,h=>by
  have:r=[]:=cg ab;subst this;rw[vg.eq_def]at h;simp at h
 |f+1,[],a,z,hf,h=>by rw[vg.eq_def]at h;simp at h
 |f+1,x :: r,a,z,hf,h=>by
  rw[vg.eq_def]at h;simp only at h;by_cases h1:(x==34)=true
  ·rw[aA h1]at h;cases h;exact jr _ _
  ·rw[ar h1]at h;by_cases h2:(x==92)=true
   ·rw[aA h2]at h;cases r with
    |nil=>simp at h
    |cons y r' =>
     simp only at h;by_cases h3:np y=true
     ·rw[aA h3]at h;cases hq:vg r' with
      |none=>rw[hq]at h;simp at h
      |some p =>
       rw[hq]at h;simp at h;obtain⟨rfl,rfl⟩:=h;have:=xR f r' p.1 p.2 (by simp at hf;omega) hq;exact(this.trans (jr _ _)).trans (jr _ _)
     ·rw[ar h3]at h;simp at h
   ·rw[ar h2]at h;by_cases h3:np x=true
    ·rw[aA h3]at h;cases hq:vg r with
     |none=>rw[hq]at h;simp at h
     |some p =>
      rw[hq]at h;simp at h;obtain⟨rfl,rfl⟩:=h;have:=xR f r p.1 p.2 (by simp at hf;omega) hq;exact this.trans (jr _ _)
    ·rw[ar h3]at h;simp at h
theorem Kb(h:z <:+ l):l.drop (l.length-z.length)=z:=by
 obtain⟨t,rfl⟩:=h;rw[aN,Nat.add_sub_cancel,List.drop_left'];rfl
theorem Kc{a:Bs}(h:Av (l.drop k)=some (a,z)):l.drop (l.length-z.length)=z:=by
 refine Kb (List.IsSuffix.trans ?_ (List.drop_suffix k l));cases hd:l.drop k with
 |nil=>rw[hd]at h;cases h
 |cons c t =>
  rw[hd]at h;have h':(if c==34 then vg t else none)=some (a,z):=h;by_cases hc:(c==34)=true
  ·rw[aA hc]at h';exact(xR _ t a z (ay _) h').trans (jr _ _)
  ·rw[ar hc]at h';cases h'
theorem QG(base b c x i:Nat)(s:aj)(v:Value)(ps:List jn)(sc tok:aj)(pv:Value)(w:World)(hr:iB w b c s v)(h:dw w c s i)(hx:kz w x sc tok pv)(ho:OwnRows base 142 2 w pv (ps.map od))(hb:base<=w.heap.size)
  (hs:s.size<100000)(hi:i<=s.size)(hl:ps.length<=16)(hz:∀p∈ps,p.1.length<100000) :
  aB 171 #[.pointer (some ⟨b,0,none⟩),.pointer (some ⟨x,0,none⟩)] w (nX base c x i s ps sc tok pv w):=by
 have hm:s.size<=maxLen:=ft;have hbc:=hr.ne h;have hxc:=hx.ne h;have Yv:=hx.neR hr;have Hh:pv.ownBlock≠some c:=ho.not h ag;have C5:pv.ownBlock≠some x:=ho.not hx ag;have hob:pv.ownBlock≠some b:=ho.not hr ag;have q0:=hr.cell0;have HN:=O (J' s i);have HV:=O (Hg s i);have hw:=Hd hi;have hk:=xQ hw;have QH:=(show kR ps (s.data.toList.drop i)=if !lB (s.data.toList.drop i)then .error 3 else
   match pB (nC (s.data.toList.drop i))with
   |none=>.error 3
   |some q=>if t_ ps (gX (s.data.toList.drop i))then .error 9 else if ps.length=16 then .error 4 else .ok ((gX (s.data.toList.drop i),q.1),q.2)from rfl)
 have hPR:=O QH;clear QH;have Ew:(gX (s.data.toList.drop i)).length<=s.size:=by
  have:=qY (s.data.toList.drop i);simp at this;omega
 go_enter func171,ntmps171;go_wp2_with fail
 refine(Aq c s i w h).mono ?_;rintro e w0⟨rfl,rfl⟩;go_wp2_with fail
 refine(vo c s i w h hm hi).mono ?_;rintro e w1⟨rfl,pk,dn⟩;replace pk:dw w1 c s (I' s i):=pk;rw[show s.extract i (cM fV s.data.toList i)=bA (gX (s.data.toList.drop i))from y_ s i];generalize gX (s.data.toList.drop i)=W at *
 generalize I' s i=K1 at *
 have yz:=hr.one h dn;have mI:=hx.fr dn hxc;have Az:=ho.fr dn (fun k hk e=>Hh (by rw[hk];exact aq some e));have lq:=O (show Fr (Hf c x pv) w w1 from dn.mono (fun k _ e=>Or.inl e));have q1:=yz.cell0;have q1a:∀o:Obj,(w1.alloc o).cell? ⟨b,0,none⟩=some (.pointer (some ⟨c,0,none⟩)):=fun o=>(yz.fr ((ae aS w1).alloc o) id).cell0;clear q0 dn;go_wp2_with fail
 obtain⟨wp,hwp⟩:∃wp,wp=w1.alloc (.cells #[.string (bA W),.string ⟨#[]⟩] 142):=⟨_,rfl⟩;have hpp:xj wp w1.heap.size (bA W) ⟨#[]⟩:=by rw[hwp];exact aC _ _
 have dz:Fr aS w1 wp:=by rw[hwp];exact(ae _ _).alloc _
 have ob:=yz.fr dz id;have se:=pk.fr dz id;have Pp:=mI.fr dz id;have qN:=Az.fr dz (fun _ _ h=>h);have fY:=O (lq.o.trans dz.mX);have q2:=ob.cell0;rw[<-hwp];generalize hP:w1.heap.size=P at *
 have Yw:P≠c:=by intro e;have:=pk.lt;omega
 have hPx:P≠x:=by intro e;have:=mI.lt;omega
 have hPb:P≠b:=by intro e;have:=yz.lt;omega
 have hPw:w.heap.size<=P:=by have:=lq.o.size;omega
 have atQ:P<wp.heap.size:=bj hpp;have hoP:pv.ownBlock≠some P:=fun e=>by have:=Az.lt P e;omega
 clear q1 q1a hwp dz;refine(mo c s K1 wp se hm hw).mono ?_;rintro e w3⟨rfl,tZ,il⟩;replace tZ:dw w3 c s (eJ s K1):=tZ;generalize eJ s K1=K2 at *
 have rq:=ob.one se il;have xk:=Pp.fr il hxc;have xN:=qN.fr il (fun k hk e=>Hh (by rw[hk];exact aq some e));have hp3:xj w3 P (bA W) ⟨#[]⟩:=il.keep hpp Yw;have iq:=O (fY.o.trans (il.mono (fun k _ e=>Or.inl e)));have q3:=rq.cell0;have p0:w3.cell? ⟨P,0,none⟩=some (.string (bA W)):=by simp[World.cell?,show w3.heap[P]?=_ from hp3]
 clear q2 il yz mI Az ob Pp qN hpp pk se;cases Pq:W.isEmpty
 case true =>
  have Hi:(bA W).toList=[]:=by rw[mM];exact gA.1 Pq
  have Ai:((bA W).toList== [])=true:=dT.2 Hi;rw[Pq]at HN;have HE:=O (show kR ps (s.data.toList.drop i)=.error 3 by rw[hPR.o,HN.o];rfl);go_wp2_with fail
  refine(tF b c K2 3 s v w3 rq tZ).mono ?_;rintro e w4⟨⟨g,rfl,hg⟩,kD⟩;go_wp2;go_ret;exact nX.bad HE.o (iq.o.trans kD.mX) ⟨g,rfl,hg⟩
 case false =>
  have Hi:¬(bA W).toList=[]:=by rw[mM];intro e;rw[e]at Pq;cases Pq
  have Ai:((bA W).toList== [])=false:=aL.2 Hi;have HN2:=O (show lB (s.data.toList.drop i)=j6 s K2 61 by rw[HN.o,Pq];rfl);clear HN Pq;go_wp2_with fail
  refine(pT c s K2 61 w3 tZ hm).mono ?_;rintro e w4⟨rfl,tW,kD⟩;have vn:=rq.one tZ kD;have Yx:=xk.fr kD hxc;have SQ:=xN.fr kD (fun k hk e=>Hh (by rw[hk];exact aq some e));have hp4:xj w4 P (bA W) ⟨#[]⟩:=kD.keep hp3 Yw;have jO:=O (iq.o.trans (kD.mono (fun k _ e=>Or.inl e)));have q4:=vn.cell0;have p0:w4.cell? ⟨P,0,none⟩=some (.string (bA W)):=by simp[World.cell?,show w4.heap[P]?=_ from hp4]
  clear q3 kD rq xk xN hp3 tZ;cases Pc:j6 s K2 61
  ·have HE:=O (show kR ps (s.data.toList.drop i)=.error 3 by rw[hPR.o,HN2.o,Pc];rfl);rw[po Pc]at tW;go_wp2_with fail
   refine(tF b c K2 3 s v w4 vn tW).mono ?_;rintro e w5⟨⟨g,rfl,hg⟩,lL⟩;go_wp2;go_ret;exact nX.bad HE.o (jO.o.trans lL.mX) ⟨g,rfl,hg⟩
  ·rw[pn Pc]at tW;rw[HN2.o,Pc]at hPR;have rS:K2+1<=s.size:=by
    have:=(List.getElem?_eq_some_iff.1 ((wG s K2 61).1 Pc)).1;have h2:K2<s.size:=by simpa using this
    omega
   go_wp2_with fail
   refine(mo c s (K2+1) w4 tW hm rS).mono ?_;rintro e w5⟨rfl,tX,lL⟩;replace tX:dw w5 c s (eJ s (K2+1)):=tX;have Hj:=xQ rS;generalize eJ s (K2+1)=K3 at *
   rw[<-HV.o]at hPR;have Bu:=vn.one tW lL;have hx5:=Yx.fr lL hxc;have Mq:=SQ.fr lL (fun k hk e=>Hh (by rw[hk];exact aq some e));have hp5:xj w5 P (bA W) ⟨#[]⟩:=lL.keep hp4 Yw;have xe:=O (jO.o.trans (lL.mono (fun k _ e=>Or.inl e)));have q5:=Bu.cell0;clear q4 p0 lL vn Yx SQ hp4 tW;go_wp2_with fail
   refine(vo c s K3 w5 tX hm Hj).mono ?_;rintro e w6⟨rfl,Mr,nz⟩;replace Mr:dw w6 c s (I' s K3):=Mr;rw[show s.extract K3 (cM fV s.data.toList K3)=bA (gX (s.data.toList.drop K3))from y_ s K3];have Kd:=Hd Hj
   have HVR:=O (show pB (s.data.toList.drop K3)=if(gX (s.data.toList.drop K3)).isEmpty then Av (s.data.toList.drop K3)else some (gX (s.data.toList.drop K3),s.data.toList.drop (I' s K3))by unfold pB;rw[vE]);have Yy:=O (show(gX (s.data.toList.drop K3)).isEmpty=true->I' s K3=K3 from fun e=>by
    unfold I' cM;have e2:(List.takeWhile fV (s.data.toList.drop K3))=[]:=gA.1 e;rw[e2];rfl)
   generalize gX (s.data.toList.drop K3)=V at *
   generalize I' s K3=K4 at *
   have Ja:=Bu.one tX nz;have hx6:=hx5.fr nz hxc;have zc:=Mq.fr nz (fun k hk e=>Hh (by rw[hk];exact aq some e));have hp6:xj w6 P (bA W) ⟨#[]⟩:=nz.keep hp5 Yw;have yy:=O (xe.o.trans (nz.mono (fun k _ e=>Or.inl e)));have p1:w6.cell? ⟨P,1,none⟩=some (.string ⟨#[]⟩):=by simp[World.cell?,show w6.heap[P]?=_ from hp6]
   have f1:w6.frozen? ⟨P,1,none⟩=false:=by simp[World.frozen?,show w6.heap[P]?=_ from hp6]
   clear q5 nz Bu hx5 Mq hp5 tX
   go_upto_if 52 with fail
   have MY:∀u:aj,xj (w6.setCell ⟨P,1,none⟩ (.string u)) P (bA W) u:=fun u=>b_ hp6 1 (.string u);have FE:∀u:Value,Fr (one P) w6 (w6.setCell ⟨P,1,none⟩ u):=fun u=>(ae (one P) w6).setCell (p:=⟨P,1,none⟩) (fun _=>rfl) u;have Jb:=O (show∀u:Value,Fr (Hf c x pv) w (w6.setCell ⟨P,1,none⟩ u)from fun u=>yy.o.step (FE u) (fun k hk e=>by have e':k=P:=e;omega))
   have HS:=O (show∀u:Value,iB (w6.setCell ⟨P,1,none⟩ u) b c s v/\dw (w6.setCell ⟨P,1,none⟩ u) c s K4/\kz (w6.setCell ⟨P,1,none⟩ u) x sc tok pv/\OwnRows base 142 2 (w6.setCell ⟨P,1,none⟩ u) pv (ps.map od)from fun u =>
    ⟨Ja.fr (FE u) (fun e=>hPb (show b=P from e).symm),Mr.fr (FE u) (fun e=>Yw (show c=P from e).symm),hx6.fr (FE u) (fun e=>hPx (show x=P from e).symm),zc.fr (FE u) (fun k hk e=>hoP (by rw[hk];exact aq some e))⟩)
   go_cut [] (fun wx=>acQ base b c x P i s v ps sc tok pv W w wx)
   case first =>
    obtain⟨SS,Yz,hx7,YA⟩:=HS.o (.string (bA V));have YB:=MY (bA V);cases hVe:V.isEmpty
    case false =>
     have EE:¬(bA V).toList=[]:=by rw[mM];intro e;rw[e]at hVe;cases hVe
     have hv2:((bA V).toList== [])=false:=aL.2 EE;have Bk:(bA V).toList.isEmpty=false:=by rw[mM];exact hVe
     have T8:=O (show pB (s.data.toList.drop K3)=some (V,s.data.toList.drop K4)by rw[HVR.o,hVe];rfl);rw[Bk];go_wp2_with fail
     go_meet
     refine⟨V,K4,Kd,Yz,YB,SS,hx7,YA,Jb.o _,?_⟩;rw[hPR.o,T8.o];rfl
    case true =>
     have Bk:(bA V).toList.isEmpty=true:=by rw[mM];exact hVe
     have hK4:=Yy.o hVe;subst hK4;have q7:=SS.cell0;have p71:(w6.setCell ⟨P,1,none⟩ (.string (bA V))).cell? ⟨P,1,none⟩=some (.string (bA V)):=by simp[World.cell?,show(w6.setCell ⟨P,1,none⟩ (.string (bA V))).heap[P]?=_ from YB]
     rw[Bk];go_wp2_with fail
     refine(MF c s K4 _ Yz ab).mono ?_;intro e w8 hq;have HQA:=O (QF s.data.toList K4);cases hqr:Av (s.data.toList.drop K4)with
     |none =>
      have hqa:gJ s.data.toList K4=none:=by rw[HQA.o,hqr];rfl
      obtain⟨rfl,hc8,ru⟩:=hq.isNone hqa;have T8:=O (show pB (s.data.toList.drop K4)=none by rw[HVR.o,hVe];exact hqr);have T9:=SS.one Yz ru;have hp8:xj w8 P (bA W) (bA V):=ru.keep YB Yw;have QI:=O ((Jb.o (.string (bA V))).trans (ru.mono (fun k _ e=>Or.inl e)));have C6:Fr (one P) w8 (w8.setCell ⟨P,1,none⟩ (.string ⟨#[]⟩)):=(ae (one P) w8).setCell (p:=⟨P,1,none⟩) (fun _=>rfl) _
      have hr9:=T9.fr C6 (fun e=>hPb (show b=P from e).symm);have hc9:=hc8.fr C6 (fun e=>Yw (show c=P from e).symm);have Xo:=O (show Fr (Hf c x pv) w (w8.setCell ⟨P,1,none⟩ (.string ⟨#[]⟩))from QI.o.step C6 (fun k hk e=>by have e':k=P:=e;omega));have q8:=T9.cell0;have q9:=hr9.cell0;have p8:w8.cell? ⟨P,1,none⟩=some (.string (bA V)):=by simp[World.cell?,show w8.heap[P]?=_ from hp8]
      have f8:w8.frozen? ⟨P,1,none⟩=false:=by simp[World.frozen?,show w8.heap[P]?=_ from hp8]
      clear q7 p71 hq ru C6;go_wp2_with fail
      refine(tF b c K4 3 s v _ hr9 hc9).mono ?_;rintro e w10⟨⟨g,rfl,hg⟩,MZ⟩;go_wp2;go_ret;exact nX.bad (by rw[hPR.o,T8.o];rfl) (Xo.o.trans MZ.mX) ⟨g,rfl,hg⟩
     |some q =>
      obtain⟨a,z⟩:=q;have hqa:gJ s.data.toList K4=some (a,s.data.toList.length-z.length):=by rw[HQA.o,hqr];rfl
      obtain⟨rfl,hc8,ru⟩:=hq.isOk hqa;have T8:=O (show pB (s.data.toList.drop K4)=some (a,z)by rw[HVR.o,hVe];exact hqr);have hzd:=O (Kc hqr);have T9:=SS.one Yz ru;have hx8:=hx7.fr ru hxc;have SU:=YA.fr ru (fun k hk e=>Hh (by rw[hk];exact aq some e));have hp8:xj w8 P (bA W) (bA V):=ru.keep YB Yw;have QI:=O ((Jb.o (.string (bA V))).trans (ru.mono (fun k _ e=>Or.inl e)))
      have C6:Fr (one P) w8 (w8.setCell ⟨P,1,none⟩ (.string (bA a))):=(ae (one P) w8).setCell (p:=⟨P,1,none⟩) (fun _=>rfl) _;have hr9:=T9.fr C6 (fun e=>hPb (show b=P from e).symm);have hc9:=hc8.fr C6 (fun e=>Yw (show c=P from e).symm);have hx9:=hx8.fr C6 (fun e=>hPx (show x=P from e).symm);have YC:=SU.fr C6 (fun k hk e=>hoP (by rw[hk];exact aq some e))
      have hp9:xj (w8.setCell ⟨P,1,none⟩ (.string (bA a))) P (bA W) (bA a):=b_ hp8 1 (.string (bA a));have Xo:=O (show Fr (Hf c x pv) w (w8.setCell ⟨P,1,none⟩ (.string (bA a)))from QI.o.step C6 (fun k hk e=>by have e':k=P:=e;omega));have p8:w8.cell? ⟨P,1,none⟩=some (.string (bA V)):=by simp[World.cell?,show w8.heap[P]?=_ from hp8]
      have f8:w8.frozen? ⟨P,1,none⟩=false:=by simp[World.frozen?,show w8.heap[P]?=_ from hp8]
      clear q7 p71 hq ru C6;go_wp2_with fail
      go_meet
      refine⟨a,_,?_,hc9,hp9,hr9,hx9,YC,Xo.o,?_⟩
      ·simp
      ·rw[hPR.o,T8.o,show s.data.toList.drop (s.data.toList.length-z.length)=z from hzd.o];rfl
   case rest =>
   obtain⟨val,j,hj,Yz,YB,SS,hx7,YA,og,yB⟩:=hcut;have Jc:=O yB;have YD:=O og;clear hPR yB og HVR Yy MY FE Jb HS Ja hx6 zc hp6 Mr p1 f1;have T_:w.heap.size<=wc.heap.size:=YD.o.size;have ix:base<=wc.heap.size:=aF hb T_;have SM:=YA.form;obtain⟨av,cv,agM⟩:=SM;rw[ai]at agM;subst agM;have lT:=YA.at;have x2:=hx7.lO;have xf2:=hx7.free 2
   have p0:wc.cell? ⟨P,0,none⟩=some (.string (bA W)):=by simp[World.cell?,show wc.heap[P]?=_ from YB]
   have p1:wc.cell? ⟨P,1,none⟩=some (.string (bA val)):=by simp[World.cell?,show wc.heap[P]?=_ from YB]
   have HPA:=O (show∀U,Fr aS wc U->U.cell? ⟨P,0,none⟩=some (.string (bA W))/\U.cell? ⟨P,1,none⟩=some (.string (bA val))/\U.cell? ⟨x,2,none⟩=some (.slice av ps.length cv)/\U.frozen? ⟨x,2,none⟩=false from fun U hU=>by
    have j1:=hU.keep YB id;have j2:=hx7.fr hU id;exact⟨by simp[World.cell?,j1],by simp[World.cell?,j1],j2.lO,j2.free 2⟩)
   go_wp2_with fail
   go_loopw[71] (agI ps W wc) (fun t _=>ps.length-(intOf t).toNat)
   case atStart=>exact⟨0,aQ _,rfl,rfl,ae _ _⟩
   case round =>
    obtain⟨k,hkl,rfl,hn,cL⟩:=hrel;have HN:=O hn;clear hn p0 p1 x2 xf2;obtain⟨p0,p1,x2,xf2⟩:=HPA.o wr cL;by_cases fk:k<ps.length
    ·have o_:(k:Int)<(ps.length:Int):=ab;have dP:=O (List.getElem?_eq_getElem fk);have Xp:=hz _ (bM fk);generalize ps[k]=q at dP Xp;obtain⟨nm,vl⟩:=q;rcases(bh lT cL).2 with ⟨_,_,_,e,_⟩|⟨bk,of,c',dn,h1,h2,h3,h4⟩
     ·have:ps.length=0:=by have:=aq List.length e;simpa using this
      omega
     rw[ai]at dn h1;cases dn;unfold maxLen at h2;have hcell:=h4 k (od (nm,vl)) (by rw[List.getElem?_map,dP.o];rfl);have c0:wr.cell? ⟨bk,of+k*2,none⟩=some (.string (bA nm)):=hcell 0 _ rfl;have c1:wr.cell? ⟨bk,of+k*2+1,none⟩=some (.string (bA vl)):=hcell 1 _ rfl;clear hcell h4;obtain⟨wb,jQ⟩:∃wb,wb=wr.alloc (.cells #[.string (bA nm),.string (bA vl)] 142):=⟨_,rfl⟩
     have kf:Fr aS wr wb:=by rw[jQ];exact(ae aS wr).alloc _
     have p0a:∀o:Obj,(wr.alloc o).cell? ⟨P,0,none⟩=some (.string (bA W)):=fun o=>(HPA.o _ (cL.alloc o)).1;have qL:=O jQ;have mh:=O (cL.trans kf);clear jQ kf;go_wp2_with fail
     rw[<-qL.o];refine(ml (bA nm) (bA W) wb (by rw[Pn];have atW:nm.length<100000:=Xp;omega) (by rw[Pn];omega)).mono ?_;rintro e w8⟨rfl,ru⟩;rw[fT,fT];have QI:=O (mh.o.trans ru);cases oZ:dH nm W
     ·have pV:=O (show(ps.take (k+1)).any (fun q=>dH q.1 W)=false from vF dP.o HN.o oZ);go_wp2;go_roundw
      case rel=>exact⟨k+1,ab,bg,pV.o,QI.o⟩
      case measure=>simp[intOf];omega
     ·have HE:=O (show kR ps (s.data.toList.drop i)=.error 9 by rw[Jc.o,aA (T6 dP.o oZ)]);go_wp2;go_ret;exact nX.bad HE.o ((YD.o.trans QI.o.mX).alloc _) (xi.new 9 i w8)
    ·have o_:¬(k:Int)<(ps.length:Int):=ab;have HT:=O (show t_ ps W=false by have h:=HN.o;rw[aD ab]at h;exact h);rw[HT.o]at Jc;by_cases Xq:ps.length=16
     ·have agN:((ps.length:Int)==16)=true:=by rw[Xq];rfl
      have HE:=O (show kR ps (s.data.toList.drop i)=.error 4 by rw[Jc.o,aA Xq];rfl);clear Xq;go_wp2;go_ret;exact nX.bad HE.o ((YD.o.trans cL.mX).alloc _) (xi.new 4 i wr)
     ·have agN:((ps.length:Int)==16)=false:=aL.2 ab;have HE:=O (show kR ps (s.data.toList.drop i)=.ok ((W,val),s.data.toList.drop j)by rw[Jc.o,ar Xq];rfl);have T':=YD.o.trans (cL.mX (S:=Hf c x (.slice av ps.length cv)));have hcr:=Yz.fr cL id;have hxr:=hx7.fr cL id;have hor:=YA.fr cL (fun _ _ h=>h);have hbr:base<=wr.heap.size:=aF ix cL.size
      have cQ:wr.ownsRow base 142 2 (.slice av ps.length cv) ps.length (ps.map od).flatten:=by
       have hh:=hor.2;rw[ai]at hh;exact hh
      have hPl:P<wr.heap.size:=cO (bj YB) cL.size;have om:x<wr.heap.size:=hxr.lt;have xh:c<wr.heap.size:=hcr.lt;obtain⟨i0,qp,o9,kQ,ld⟩:=info_parts Ka;have wU:=O (show∀u∈od (W,val),u.oneCell'=true from Po _);have hps:ps.length<16:=ab;clear agN lT hz HN;go_wp2_with fail
      go_region_law ((with_reducible refine mL ⟨some 102,_,_,_,_,_⟩ ?_)
                     refine step_append_lies _ bC _ _ _ bC base 142 i0 _ 2 32 underlying27 qp o9 kQ ld rfl ab (.slice av ps.length cv) ps.length _ bC (by repeat(first|exact cQ|apply World.ownsRow.alloc|apply World.ownsRow.drew)) ⟨wr.heap.size,0,none⟩ 1 1 (od (W,val)) bC bC (kF wr (od (W,val)) _) wU.o ab ft ab bH (wr.heap.size+1) aR ?_
                     intro gg cap w5 vG js Ua acU
                     have qR:Fr (fun k=>(Value.slice av ps.length cv).ownBlock=some k) wr w5:=fl (by repeat(first|exact ae _ _|apply az|apply bz)) js (fun _ hk _=>hk)
                     have k4:w5.cell? ⟨x,2,none⟩=some (.slice av ps.length cv):=(qR.cell (p:=⟨x,2,none⟩) om C5).trans x2
                     have e4:w5.frozen? ⟨x,2,none⟩=false:=(qR.frozen (p:=⟨x,2,none⟩) om C5).trans xf2)
      all_goals
       have hx5:kz w5 x sc tok (.slice av ps.length cv):=hxr.fr qR C5;have tX:dw w5 c s j:=hcr.fr qR Hh;have JK:Fr (one x) w5 (w5.setCell ⟨x,2,none⟩ (.slice (some ⟨gg,0,none⟩) (ps.length+1) cap)):=(ae (one x) w5).setCell (p:=⟨x,2,none⟩) (fun _=>rfl) _;have hx6:kz (w5.setCell ⟨x,2,none⟩ (.slice (some ⟨gg,0,none⟩) (ps.length+1) cap)) x sc tok (.slice (some ⟨gg,0,none⟩) (ps.length+1) cap):=b_ hx5 2 _
       have Mr:=tX.fr JK (fun e=>hxc (show c=x from e).symm);have hgx:gg≠x:=by
        rintro rfl;rcases Ua with e|e
        ·exact C5 e
        ·omega
       have Mq:OwnRows base 142 2 w5 (.slice (some ⟨gg,0,none⟩) (ps.length+1) cap) ((ps++[(W,val)]).map od):=by
        refine⟨T7 _,?_⟩;have e1:((ps++[(W,val)]).map od).length=ps.length+1:=aR;have e2:((ps++[(W,val)]).map od).flatten=(ps.map od).flatten++od (W,val):=aR;rw[e1,e2];exact vG
       have zc:=Mq.fr JK (fun k hk e=>hgx (by
        simp only[Value.ownBlock,eo]at hk;rw[hk];exact e))
       have Ub:=O (show Fr (Hf c x (.slice av ps.length cv)) w (w5.setCell ⟨x,2,none⟩ (.slice (some ⟨gg,0,none⟩) (ps.length+1) cap))from
        (T'.trans (qR.mono (fun k _ e=>Or.inr (Or.inr e)))).trans (JK.mono (fun k _ e=>Or.inr (Or.inl e))))
       clear k4 e4 js vG cQ qR;go_wp2;go_ret;refine⟨Ub.o,?_⟩;rw[HE.o];exact⟨rfl,j,_,hj,Mr,rfl,hx6,zc⟩
theorem Nk(o:gq)(path query:aj)(w:World)(h1:path.size<100000)(h2:query.size<100000) :
  aB 74 #[.agg #[.bool o.aE,.string o.host,.int .i64 o.port,.string path,.string query]] w fun e w'=>e=.returned (.string (nE path query))/\Fr aS w w':=by
 by_cases h0:query.size=0
 ·have HT:=O (show nE path query=path by unfold nE;rw[aA h0]);have t1:query.toList=[]:=by rw[aO];exact gS.2 h0
  have t2:query.toList.isEmpty=true:=by rw[t1];rfl
  go_enter func74,ntmps74;go_wp2;go_ret;exact⟨by rw[HT.o];rfl,(ae aS w).alloc _⟩
 ·have HT:=O (show nE path query=(path++⟨#[63]⟩)++query by unfold nE;rw[ar h0]);have t1:¬query.toList=[]:=by rw[aO];exact fun h=>h0 (gS.1 h)
  have t2:query.toList.isEmpty=false:=by simpa using t1
  go_enter func74,ntmps74;go_wp2;go_ret;exact⟨by rw[HT.o];rfl,(ae aS w).alloc _⟩
def uZ(gs:List (aP bE))(g:aP bE):List (aP bE) :=
 let l:=gs.filter (fun x=>!mS g.o g.proxy g.a.aK x)++[g]
 l.drop (l.length-8)
def Hz(base:Nat)(w:World)(b:Nat)(gv wv:Value)(gs:List (aP bE))(ws:List (bI bE))(e:Ending)(w':World):Prop :=
 e=.returned (.tuple #[])/\kr base w b gv wv gs ws w'
theorem FZ{base:Nat}{w2 w3 w4:World}{b:Nat}{gv wv:Value}{fs:List (aP bE)}{ws:List (bI bE)}{m:aP bE}{r3:aP Value}{rs:List (aP Value)}{gg cap:Nat}(h2:dD base w2 b gv wv fs ws)
  (ho:OwnRows base 133 16 w2 gv (rs.map aP.cells))(ko:kT (aP.Reads (du base w2)) rs fs)(il:Fr aS w2 w3)(rq:aP.Reads (du base w3) r3 m)(qE:∀u∈r3.cells,u.oneCell'=true)(kD:Fr (own gv) w3 w4)
  (eZ:w4.ownsRow base 133 16 (.slice (some ⟨gg,0,none⟩) (fs.length+1) cap) (fs.length+1) ((rs.map aP.cells).flatten++r3.cells))(dP:gv.ownBlock=some gg\/w2.heap.size<=gg) :
  dD base (w4.setCell ⟨b,0,none⟩ (.slice (some ⟨gg,0,none⟩) (fs.length+1) cap)) b (.slice (some ⟨gg,0,none⟩) (fs.length+1) cap) wv (fs++[m]) ws /\
  Fr (dv b gv wv) w2 (w4.setCell ⟨b,0,none⟩ (.slice (some ⟨gg,0,none⟩) (fs.length+1) cap))/\∀k,dv b (.slice (some ⟨gg,0,none⟩) (fs.length+1) cap) wv k->dv b gv wv k\/w2.heap.size<=k:=by
 have k_:=h2.low;have uT:=ko.len;have xN:=ho.fr il (fun _ _ h=>h);have DF:rR base w3 (own gv):=xN.off (ay _) ag;have tK:kT (aP.Reads (du base w4)) (rs++[r3]) (fs++[m]) :=
  (ko.mono (fun _ _ h=>h.mono (fun _ _ h=>(h.di il).fr kD DF))).app (.cons (rq.mono (fun _ _ h=>h.fr kD DF)) .nil)
 have BU:fZ base w4 (.slice (some ⟨gg,0,none⟩) (fs.length+1) cap) (fs++[m]):=by
  refine⟨rs++[r3],⟨?_,?_⟩,tK⟩
  ·intro x hx;rw[bG]at hx;rcases bQ.1 hx with hx|hx
   ·exact ho.1 x hx
   ·simp at hx;subst hx;exact⟨rfl,qE⟩
  ·rw[bG,ed,aN,ai,uT];simpa using eZ
 have h3:=h2.di il;have sO:=kD.keep h3.eJ h3.gb;have qt:jY base w4 wv ws:=h3.waits.fr kD DF (fun k hk hg=>h3.gw hg hk);have T':Fr (dv b gv wv) w2 w4:=fU (il.mono (fun _ _ h=>absurd h id)) kD (fun _ _ hk=>Or.inr (Or.inl hk));refine⟨nF k_ sO BU qt,T'.setCell (p:=⟨b,0,none⟩) (fun _=>Or.inl rfl) _,?_⟩;rintro k(hk|hk|hk)
 ·exact Or.inl (Or.inl hk)
 ·have e:gg=k:=by simpa[own,Value.ownBlock]using hk
  subst e;rcases dP with dP|dP
  ·exact Or.inl (Or.inr (Or.inl dP))
  ·exact Or.inr dP
 ·exact Or.inl (Or.inr (Or.inr hk))
theorem KE{base:Nat}{w5 w6:World}{b gg cap n:Nat}{wv:Value}{ls:List (aP bE)}{ws:List (bI bE)}{rs:List (aP Value)}(h5:dD base w5 b (.slice (some ⟨gg,0,none⟩) ls.length cap) wv ls ws)
  (hb:kT (aP.Reads (du base w5)) rs ls)(zc:OwnRows base 133 16 w6 (.slice (some ⟨gg,0,none⟩) (0+(ls.length-n)) cap) ((rs.map aP.cells).take 0++(rs.map aP.cells).drop n))(nz:Fr (one gg) w5 w6) :
  dD base (w6.setCell ⟨b,0,none⟩ (.slice (some ⟨gg,0,none⟩) (0+(ls.length-n)) cap)) b (.slice (some ⟨gg,0,none⟩) (0+(ls.length-n)) cap) wv (ls.drop n) ws /\
  Fr (dv b (.slice (some ⟨gg,0,none⟩) ls.length cap) wv) w5 (w6.setCell ⟨b,0,none⟩ (.slice (some ⟨gg,0,none⟩) (0+(ls.length-n)) cap))/\w6.cell? ⟨b,0,none⟩=some (.slice (some ⟨gg,0,none⟩) ls.length cap)/\w6.frozen? ⟨b,0,none⟩=false:=by
 have k_:=h5.low;have dX:∀k,one gg k->own (.slice (some ⟨gg,0,none⟩) ls.length cap) k:=fun k hk=>by have e:k=gg:=hk;rw[e];rfl
 have mO:rR base w5 (one gg):=fun k hk hl=>h5.off k (Or.inr (Or.inl (dX k hk))) hl;have sO:=nz.keep h5.eJ (fun h=>h5.gb (dX _ h));have zx:jY base w6 wv ws:=h5.waits.fr nz mO (fun k hk hg=>h5.gw (dX _ hg) hk);have hg6:fZ base w6 (.slice (some ⟨gg,0,none⟩) (0+(ls.length-n)) cap) (ls.drop n):=by
  refine⟨rs.drop n,?_,(hb.mono (fun _ _ h=>h.mono (fun _ _ h=>h.fr nz mO))).drop n⟩;rw[List.take_zero,List.nil_append]at zc;rw[List.map_drop];exact zc
 have T':Fr (dv b (.slice (some ⟨gg,0,none⟩) ls.length cap) wv) w5 w6:=nz.mono (fun k _ hk=>Or.inr (Or.inl (dX k hk)));exact⟨nF k_ sO hg6 zx,T'.setCell (p:=⟨b,0,none⟩) (fun _=>Or.inl rfl) _,by simp[World.cell?,sO],by simp[World.frozen?,sO]⟩
theorem PM(base:Nat)(w:World)(b:Nat)(gv wv:Value)(gs:List (aP bE))(ws:List (bI bE))(g:aP Value)(m:aP bE)(h:dD base w b gv wv gs ws)(hg:g.Reads (du base w) m)(Nn:gs.length<34359738368) :
  aB 79 #[.pointer (some ⟨b,0,none⟩),.agg g.cells.toArray] w (Hz base w b gv wv (uZ gs m) ws):=by
 obtain⟨x,hx⟩:∃x,x=g.cells:=⟨_,rfl⟩;have lp:x.length=16:=by rw[hx];rfl
 have tV:=h.lt;have k_:=h.low;have oW:Fr aS w (w.alloc (.cells x.toArray 133)):=(ae aS w).alloc _;have h1:=h.di oW;have Fh:=hg.mono (fun _ _ h=>h.di oW);have p_:(w.alloc (.cells x.toArray 133)).heap[w.heap.size]?=some (.cells x.toArray 133 (0,0)):=aC _ _;have mZ:∀i u,g.cells[i]?=some u->(w.alloc (.cells x.toArray 133)).cell? ⟨w.heap.size,i,none⟩=some u:=fun i u hu=>by
  rw[<-hx]at hu;simp only[World.cell?,p_];simpa using hu
 have c0:=mZ 0 _ rfl;have c1:=mZ 1 _ rfl;have c2:=mZ 2 _ rfl;have c3:=mZ 3 _ rfl;have c7:=mZ 7 _ rfl;have sH:=O (zw base _ b gv wv gs ws g.o g.proxy g.a.aK h1);have tG:=O p_;have HG:=O Fh;have HX:=O hx;rw[<-hx];clear hg Fh p_ mZ hx;go_enter func79,ntmps79;go_wp2_with fail
 clear c0 c1 c2 c3 c7;have Ew:w.heap.size<(w.alloc (.cells x.toArray 133)).heap.size:=aR;generalize w.alloc (.cells x.toArray 133)=W at *
 refine sH.o.mono ?_;intro e w2 hpd;obtain⟨rfl,gv2,wv2,h2,dz,KF⟩:=hpd;have mO:=h1.off;have pV:¬dv b gv wv w.heap.size:=by
  rintro(e|hk|hk)
  ·omega
  ·obtain⟨c,e⟩:=h.tN hk;have:=bj e;omega
  ·obtain⟨c,e⟩:=h.vP hk;have:=bj e;omega
 have zy:=O (dz.keep tG.o pV);have xb:=O (HG.o.mono (fun _ _ h=>h.fr dz mO));have Y6:(gs.filter (fun g_1=>!mS g.o g.proxy g.a.aK g_1)).length<=gs.length:=bT _ _;obtain⟨fs,kx⟩:∃fs,fs=gs.filter (fun g_1=>!mS g.o g.proxy g.a.aK g_1):=⟨_,rfl⟩;rw[<-kx]at h2 Y6 ⊢;have UT:=O kx;have je:Fr (dv b gv wv) w w2:=fU (oW.mono (fun _ _ h=>absurd h id)) dz (fun _ _ h=>h);clear sH oW dz mO kx h1 h tG HG
 have Dr:=O (show uZ gs m=(fs++[m]).drop (fs.length+1-8)by
  have hr:=xb.o;unfold uZ;rw[<-hr.1, <-hr.2.1, <-hr.2.2.2.2.1.2.1, <-UT.o];simp)
 obtain⟨av,cv,UP⟩:=h2.bU.form;subst UP;have d0:=h2.c0;have e0:=h2.free 0;obtain⟨rs,ho,ko⟩:=h2.bU;have cQ:=ho.2;have om:∀i u,g.cells[i]?=some u->w2.cell? ⟨w.heap.size,i,none⟩=some u:=fun i u hu=>by
  have e:=HX.o;rw[<-e]at hu;simp only[World.cell?,zy.o];simpa using hu
 have x0:=om 0 _ rfl;have x1:=om 1 _ rfl;have x2:=om 2 _ rfl;have x3:=om 3 _ rfl;have x4:=om 4 _ rfl;have x5:=om 5 _ rfl;have x6:=om 6 _ rfl;have x7:=om 7 _ rfl;have x8:=om 8 _ rfl;have x9:=om 9 _ rfl;have Y7:=om 10 _ rfl;have Y8:=om 11 _ rfl;have x12:=om 12 _ rfl;have x13:=om 13 _ rfl;have x14:=om 14 _ rfl;have x15:=om 15 _ rfl;have Ra:¬own (.slice av fs.length cv) w.heap.size:=fun hk=>by
  rcases KF _ (Or.inr (Or.inl hk))with h|h
  ·exact pV h
  ·omega
 have fB:=O (show∀U,Fr aS w2 U->aB 94 #[.agg #[.bool g.o.aE,.string g.o.host,.int .i64 g.o.port,.bool g.proxy,.string g.user,.string g.pass,.int .i64 g.a.scheme,.string g.a.aK,.string g.a.bq,.string g.a.cy,.bool g.a.cA,.string g.a.eF,.bool g.a.cN,g.a.dom,.int .i64 g.count,g.paths]] U (UN base m U)from fun U hU=>by
  exact ur base g m U (by have:=h2.lt;have:=hU.size;omega) (xb.o.mono (fun _ _ h=>h.di hU)))
 obtain⟨i0,qp,o9,kQ,ld⟩:=info_parts x_;have HO:=O ho;have pN:=O ko;have uT:=ko.len;have hkl:=O (show(rs.map aP.cells).length=fs.length by rw[ai,uT]);have aup:base<=w2.heap.size:=by have:=h2.lt;omega
 have Ai:¬own (.slice av fs.length cv) b:=h2.gb
 have DG:=O (show∀U,Fr (own (.slice av fs.length cv)) w2 U->U.cell? ⟨b,0,none⟩=some (.slice av fs.length cv)/\U.cell? ⟨w.heap.size,0,none⟩=some (.bool g.o.aE)/\U.cell? ⟨w.heap.size,1,none⟩=some (.string g.o.host)/\U.cell? ⟨w.heap.size,2,none⟩=some (.int .i64 g.o.port)/\U.cell? ⟨w.heap.size,3,none⟩=some (.bool g.proxy)/\U.cell? ⟨w.heap.size,4,none⟩=some (.string g.user)/\U.cell? ⟨w.heap.size,5,none⟩=some (.string g.pass)/\U.cell? ⟨w.heap.size,6,none⟩=some (.int .i64 g.a.scheme)/\U.cell? ⟨w.heap.size,7,none⟩=some (.string g.a.aK)/\U.cell? ⟨w.heap.size,8,none⟩=some (.string g.a.bq)/\U.cell? ⟨w.heap.size,9,none⟩=some (.string g.a.cy)/\U.cell? ⟨w.heap.size,10,none⟩=some (.bool g.a.cA)/\U.cell? ⟨w.heap.size,11,none⟩=some (.string g.a.eF)/\U.cell? ⟨w.heap.size,12,none⟩=some (.bool g.a.cN)/\U.cell? ⟨w.heap.size,13,none⟩=some (g.a.dom)/\U.cell? ⟨w.heap.size,14,none⟩=some (.int .i64 g.count)/\U.cell? ⟨w.heap.size,15,none⟩=some (g.paths)from fun U hU=>by
  have hc:∀i u,g.cells[i]?=some u->U.cell? ⟨w.heap.size,i,none⟩=some u:=fun i u hu=>(hU.cell (p:=⟨w.heap.size,i,none⟩) (bj zy.o) Ra).trans (om i u hu);exact⟨(hU.cell (p:=⟨b,0,none⟩) h2.lt Ai).trans d0,hc 0 _ rfl,hc 1 _ rfl,hc 2 _ rfl,hc 3 _ rfl,hc 4 _ rfl,hc 5 _ rfl,hc 6 _ rfl,hc 7 _ rfl,hc 8 _ rfl,hc 9 _ rfl,hc 10 _ rfl,hc 11 _ rfl,hc 12 _ rfl,hc 13 _ rfl,hc 14 _ rfl,hc 15 _ rfl⟩)
 clear ho ko uT cQ om;go_wp2_with fail
 go_region_law (first
   |((with_reducible refine mL ⟨some 20,_,_,_,_,_⟩ ?_)
     refine Ay rfl 94 _ (by go_simp) (fB.o _ (by repeat(first|exact ae _ _|apply az))) ?_
     intro e w3 Np
     obtain⟨r3,rfl,rq,qE,il⟩:=Np
     refine⟨_,rfl,?_⟩
     have iq:Fr aS w2 w3:=bF (by repeat(first|exact ae _ _|apply az)) il
     have hk:=DG.o w3 (iq.mono (fun _ _ h=>absurd h id))
     have k3:=hk.1
     have hbl:b<w3.heap.size:=cO h2.lt iq.size
     obtain⟨y,hy⟩:∃y,y=r3.cells:=⟨_,rfl⟩
     have CP:y.length=16:=by rw[hy];rfl
     have HY:=O hy
     rw[<-hy]at qE ⊢
     have FW:=vD y #[.bool false,.string ⟨#[]⟩,.int .i64 0,.bool false,.string ⟨#[]⟩,.string ⟨#[]⟩,.int .i64 0,.string ⟨#[]⟩,.string ⟨#[]⟩,.string ⟨#[]⟩,.bool false,.string ⟨#[]⟩,.bool false,.slice none 0 0,.int .i64 0,.slice none 0 0] (by rw[CP];rfl)
     have fq:w3.ownsRow base 133 16 (.slice av fs.length cv) fs.length (rs.map aP.cells).flatten:=by
       have h:=(HO.o.fr iq (fun _ _ h=>h)).2
       rw[hkl.o]at h
       exact h
     have sV:base<=w3.heap.size:=by have:=iq.size;omega
     clear hy il)
   |((with_reducible refine mL ⟨some 22,_,_,_,_,_⟩ ?_)
     refine step_append_lies _ bC _ _ _ bC base 133 i0 _ 16 216 underlying85 qp o9 kQ ld rfl ab (.slice av fs.length cv) fs.length _ bC (by repeat(first|exact fq|apply World.ownsRow.alloc|apply World.ownsRow.drew)) ⟨w3.heap.size,0,none⟩ 1 1 y bC (by rw[CP]) (kF w3 y _) qE ab ft ab bH (w3.heap.size+1) aR ?_
     intro gg cap w4 eZ js dP KG
     have ahE:Fr (own (.slice av fs.length cv)) w2 w3:=iq.mono (fun _ _ h=>absurd h id)
     have jO:Fr (own (.slice av fs.length cv)) w2 w4:=fl (by repeat(first|exact ahE|apply az|apply bz)) js (fun _ hk _=>hk)
     have H_:Fr (own (.slice av fs.length cv)) w3 w4:=fl (by repeat(first|exact ae _ _|apply az|apply bz)) js (fun _ hk _=>hk)
     have hk:=DG.o w4 jO
     have k4:=hk.1
     have e4:w4.frozen? ⟨b,0,none⟩=false:=(jO.frozen (p:=⟨b,0,none⟩) h2.lt Ai).trans e0))
 all_goals
  rw[HY.o]at eZ qE;obtain⟨h5,hF5,Rb⟩:=FZ h2 HO.o pN.o iq rq qE H_ eZ (dP.imp id (fun h=>by have:=iq.size;omega));have d5:=h5.c0;have e5:=h5.free 0;clear fB DG eZ js jO H_ fq ahE k4 e4 hk k3 x0 x1 x2 x3 x4 x5 x6 x7 x8 x9 Y7 Y8 x12 x13 x14 x15 d0 e0 FW rq qE;generalize w4.setCell ⟨b,0,none⟩ (.slice (some ⟨gg,0,none⟩) (fs.length+1) cap)=w5 at *
  have AI:(fs++[m]).length=fs.length+1:=aR;have Tb:=O AI;have ye:Fr (dv b gv wv) w w5:=je.step hF5 (fun k hk hb=>by
   rcases KF k hb with h|h
   ·exact h
   ·omega)
  have ET:∀k,dv b (.slice (some ⟨gg,0,none⟩) (fs.length+1) cap) wv2 k->dv b gv wv k\/w.heap.size<=k:=fun k hk=>by
   rcases Rb k hk with h|h
   ·rcases KF k h with h|h
    ·exact Or.inl h
    ·exact Or.inr ab
   ·exact Or.inr (by have:=je.size;omega)
  by_cases h8:8<=fs.length
  ·have h8':(8:Int)<(fs.length:Int)+1:=ab;obtain⟨n,hn⟩:∃n:Nat,fs.length+1=n+8:=⟨fs.length+1-8,ab⟩;rw[<-AI]at h5;obtain⟨rs5,Mq,EU⟩:=h5.bU;have Ns:=O (show(rs5.map aP.cells).length=fs.length+1 by rw[ai,EU.len,AI]);have qz:=O (FX base gg cap 0 n (rs5.map aP.cells) w5 (by rw[Ns.o, <-AI];exact Mq) ab (by rw[Ns.o];omega));have Rc:=O hn;rw[Ns.o]at qz;clear hn AI;go_wp2_with fail
   rw[show((fs.length:Int)+1-8)=(n:Int)from by have:=Rc.o;omega];refine qz.o.mono ?_;rintro e w6⟨rfl,zc,nz⟩;obtain⟨h7,Tc,d7,e7⟩:=KE (n:=n) h5 EU (by rw[Tb.o];exact zc) nz;rw[Tb.o,bw]at h7 Tc;rw[Tb.o]at d7;have H7:=O h7;have Jb:=O Tc;clear h7 Tc qz zc EU Mq;go_wp2_with fail
   go_end0;refine⟨rfl,_,_,by rw[Dr.o,show fs.length+1-8=n from by have:=Rc.o;omega];exact H7.o,ye.step Jb.o (fun k hk hb=>by
    rcases ET k hb with h|h
    ·exact h
    ·omega),fun k hk=>ET k ?_⟩
   rcases hk with h|h|h
   ·exact Or.inl h
   ·exact Or.inr (Or.inl h)
   ·exact Or.inr (Or.inr h)
  ·have h8':¬(8:Int)<(fs.length:Int)+1:=ab;go_wp2_with fail
   go_end0;exact⟨rfl,_,_,by rw[Dr.o,show fs.length+1-8=0 from ab,eE];exact h5,ye,ET⟩
