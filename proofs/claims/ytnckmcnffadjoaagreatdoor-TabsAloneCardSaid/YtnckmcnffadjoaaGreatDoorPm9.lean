/- Lemmas for the law's walk. -/
import Derived.Test.YtnckmcnffadjoaaGreatDoorPm8
import Derived.Deep.AppendLies
set_option maxRecDepth 100000
set_option maxHeartbeats 16000000
set_option linter.unusedSimpArgs false
namespace Go.Proofs.YtnckmcnffadjoaaGreatDoor
open Go.Proofs.Tryz
open Go.RowKit
variable {b k g base c i:Nat} {e:TypeId} {w:World} {v:Value} {xs:cZ} {t:aj} {ps:List jz} {n W z l:Bs}
theorem OwnRows.kind(h:OwnRows b e k w v xs)(hg:own v g):∃c,w.heap[g]?=some (.cells c e (0,0)):=by
 obtain⟨cap,cur,_,_,h2,_⟩:=h.open hg;exact⟨cur,h2⟩
def dw(b:Nat)(gv wv:Value):dC:=fun k=>k=b\/own gv k\/own wv k
section
variable {base : Nat} {w w' : World} {b : Nat} {gv wv : Value} {gs : List (aP bE)} {ws : List (bJ bE)}
theorem dE.tY(h:dE base w b gv wv gs ws)(hk:own gv k):∃c,w.heap[k]?=some (.cells c 114 (0,0)):=by
 obtain⟨rs,h1,_⟩:=h.bH;exact h1.kind hk
theorem dE.vZ(h:dE base w b gv wv gs ws)(hk:own wv k):∃c,w.heap[k]?=some (.cells c 133 (0,0)):=by
 obtain⟨rs,h1,_⟩:=h.waits;exact h1.kind hk
theorem dE.gw(h:dE base w b gv wv gs ws)(hk:own gv k):¬own wv k:=by
 intro h2;obtain⟨c,e1⟩:=h.tY hk;obtain⟨d,e2⟩:=h.vZ h2;rw[e1]at e2;cases e2
theorem dE.gb(h:dE base w b gv wv gs ws):¬own gv b:=by
 intro h2;obtain⟨c,e1⟩:=h.tY h2;have e2:=h.eL;rw[e1]at e2;cases e2
theorem dE.wb(h:dE base w b gv wv gs ws):¬own wv b:=by
 intro h2;obtain⟨c,e1⟩:=h.vZ h2;have e2:=h.eL;rw[e1]at e2;cases e2
theorem dE.ah_(h:dE base w b gv wv gs ws)(hk:own gv k):base<=k:=by
 obtain⟨rs,h1,_⟩:=h.bH;exact h1.block k hk
theorem dE.aia(h:dE base w b gv wv gs ws)(hk:own wv k):base<=k:=by
 obtain⟨rs,h1,_⟩:=h.waits;exact h1.block k hk
theorem dE.off(h:dE base w b gv wv gs ws):rY base w (dw b gv wv):=by
 intro k hk _;rcases hk with rfl|hk|hk
 ·exact⟨h.low,fun c f e=>by rw[h.eL]at e;cases e⟩
 ·obtain⟨c,e1⟩:=h.tY hk;exact⟨h.ah_ hk,fun c f e=>by rw[e1]at e;cases e⟩
 ·obtain⟨c,e1⟩:=h.vZ hk;exact⟨h.aia hk,fun c f e=>by rw[e1]at e;cases e⟩
end
def kE(base:Nat)(w:World)(b:Nat)(gv wv:Value)(gs:List (aP bE))(ws:List (bJ bE))(w':World):Prop :=
 ∃gv' wv',dE base w' b gv' wv' gs ws/\Fr (dw b gv wv) w w'/\∀k,dw b gv' wv' k->dw b gv wv k\/w.heap.size<=k
def DW(go:gA)(gx:Bool)(gr:aj)(o:gA)(proxy:Bool)(aK:aj):Bool:=go.lj o&&(gx==proxy&&gr.toList==aK.toList)
def mX(o:gA)(proxy:Bool)(aK:aj)(g:aP bE):Bool:=DW g.o g.proxy g.a.aK o proxy aK
def KY(o:gA)(proxy:Bool)(aK:aj)(x:aX):Bool:=DW (ag6 x) (cB x 3) (cS x 7) o proxy aK
theorem KZ(g:aP Value)(o:gA)(proxy:Bool)(aK:aj)(w:World) :
  aB 109 #[.agg g.cells.toArray,.agg o.cells.toArray,.bool proxy,.string aK] w fun e w'=>e=.returned (.bool (DW g.o g.proxy g.a.aK o proxy aK))/\Fr aS w w':=by
 have heq:=jA g.o o;unfold aP.cells gA.cells;cases e1:g.o.lj o
 ·have HR:=O (show DW g.o g.proxy g.a.aK o proxy aK=false by unfold DW;rw[e1];rfl);go_enter func109,ntmps109;go_wp2;go_ret;exact⟨by rw[HR.o];rfl,((ae _ _).alloc _).alloc _⟩
 ·have HR:=O (show DW g.o g.proxy g.a.aK o proxy aK=(g.proxy==proxy&&g.a.aK.toList==aK.toList)by unfold DW;rw[e1];rfl);cases e2:g.proxy==proxy
  ·go_enter func109,ntmps109;go_wp2;go_ret;exact⟨by rw[HR.o,e2];rfl,((ae _ _).alloc _).alloc _⟩
  ·go_enter func109,ntmps109;go_wp2;go_ret;exact⟨by rw[HR.o,e2];rfl,((ae _ _).alloc _).alloc _⟩
theorem Rt(g:aP Value)(eb:∀u∈g.cells,u.oneCell'=true)(o:gA)(proxy:Bool)(aK:aj)(bo bp br:Nat)(w:World)(ho:w.heap[bo]?=some (.cells #[.bool o.aE,.string o.host,.int .i64 o.port] 32 (0,0)))
  (hp:w.heap[bp]?=some (.cells #[.bool proxy] 4 (0,0)))(hr:w.heap[br]?=some (.cells #[.string aK] 9 (0,0))) :
  aB 108 #[.agg g.cells.toArray,.pointer (some ⟨bo,0,none⟩),.pointer (some ⟨bp,0,none⟩),.pointer (some ⟨br,0,none⟩)] w fun e w'=>e=.returned (.bool (KY o proxy aK g.cells))/\Fr aS w w':=by
 obtain⟨x,hx⟩:∃x,x=g.cells:=⟨_,rfl⟩;have lB:x.length=16:=by rw[hx];rfl
 have HX:=O hx;have DN:=O (Iv lB);have ir:=fun W=>run_storeCells_new (P:=prog) W 114 #[.bool false,.string ⟨#[]⟩,.int .i64 0,.bool false,.string ⟨#[]⟩,.string ⟨#[]⟩,.int .i64 0,.string ⟨#[]⟩,.string ⟨#[]⟩,.string ⟨#[]⟩,.bool false,.string ⟨#[]⟩,.bool false,.slice none 0 0,.int .i64 0,.slice none 0 0] x (by rw[lB];rfl) (by rw[hx];exact eb)
 have gS:Fr aS w (w.alloc (.cells x.toArray 114)):=(ae aS w).alloc _;have qX:=O (gS.keep ho id);have C_:=gS.keep hp id;have ot:=gS.keep hr id;have cp:(w.alloc (.cells x.toArray 114)).cell? ⟨bp,0,none⟩=some (.bool proxy):=by simp only[World.cell?,C_];rfl
 have cr:(w.alloc (.cells x.toArray 114)).cell? ⟨br,0,none⟩=some (.string aK):=by simp only[World.cell?,ot];rfl
 have fD:=O (KZ g o proxy aK (w.alloc (.cells x.toArray 114)));rw[<-hx];rw[<-hx]at fD;clear hx ho hp hr C_ ot;go_enter func108,ntmps108
 go_wp2_with (first|((with_reducible refine di 6 ?_);refine aH rfl 114 (.tmp 4) rfl w.heap.size rfl _ x.toArray (0,0) _ (aC w _) underlying114 rfl (by rw[aZ];exact DN.o) ?_)|((with_reducible refine di 7 ?_);refine aH rfl 32 (.tmp 1) rfl bo rfl _ _ (0,0) _ qX.o underlying32 rfl af ?_)|fail)
 refine fD.o.mono ?_;rintro e w2⟨rfl,dB⟩;go_wp2;go_ret;rw[HX.o];exact⟨rfl,gS.trans dB⟩
theorem Fi(S:dC)(w:World)(o:gA)(proxy:Bool)(aK:aj)(bo bp br:Nat)(rs:List (aP Value))(eb:∀r∈rs,∀u∈r.cells,u.oneCell'=true)
  (ho:w.heap[bo]?=some (.cells #[.bool o.aE,.string o.host,.int .i64 o.port] 32 (0,0)))(hp:w.heap[bp]?=some (.cells #[.bool proxy] 4 (0,0)))(hr:w.heap[br]?=some (.cells #[.string aK] 9 (0,0)))
  (h1:¬S bo)(h2:¬S bp)(h3:¬S br) :
  gP S w 108 #[.pointer (some ⟨bo,0,none⟩),.pointer (some ⟨bp,0,none⟩),.pointer (some ⟨br,0,none⟩)] (KY o proxy aK) (rs.map aP.cells):=by
 intro x hx u hu;obtain⟨r,hr0,rfl⟩:=b_.1 hx;exact Rt r (eb r hr0) o proxy aK bo bp br u (hu.keep ho h1) (hu.keep hp h2) (hu.keep hr h3)
theorem dE.aib{base:Nat}{w:World}{b:Nat}{gv0 gv wv:Value}{gs:List (aP bE)}{ws:List (bJ bE)}(hl:base<=b)(hb:w.heap[b]?=some (.cells #[gv0,wv] 89 (0,0)))(hg:gi base w gv gs)(hw:ki base w wv ws) :
  dE base (w.setCell ⟨b,0,none⟩ gv) b gv wv gs ws:=by
 have rO:rY base w (one b):=by
  rintro k rfl _;exact⟨hl,fun c f e=>by rw[hb]at e;cases e⟩
 have kH:Fr (one b) w (w.setCell ⟨b,0,none⟩ gv):=(ae (one b) w).setCell (p:=⟨b,0,none⟩) (fun _=>rfl) _;refine⟨hl,cg hb 0 gv,hg.fr kH rO ?_,hw.fr kH rO ?_⟩
 ·rintro k hk rfl;obtain⟨rs,h1,_⟩:=hg;obtain⟨c,e⟩:=h1.kind hk;rw[hb]at e;cases e
 ·rintro k hk rfl;obtain⟨rs,h1,_⟩:=hw;obtain⟨c,e⟩:=h1.kind hk;rw[hb]at e;cases e
theorem dE.adV{wv0 gv wv:Value}{gs:List (aP bE)}{ws:List (bJ bE)}(hl:base<=b)(hb:w.heap[b]?=some (.cells #[gv,wv0] 89 (0,0)))(hg:gi base w gv gs)(hw:ki base w wv ws) :
  dE base (w.setCell ⟨b,1,none⟩ wv) b gv wv gs ws:=by
 have rO:rY base w (one b):=by
  rintro k rfl _;exact⟨hl,fun c f e=>by rw[hb]at e;cases e⟩
 have kH:Fr (one b) w (w.setCell ⟨b,1,none⟩ wv):=(ae (one b) w).setCell (p:=⟨b,1,none⟩) (fun _=>rfl) _;refine⟨hl,cg hb 1 wv,hg.fr kH rO ?_,hw.fr kH rO ?_⟩
 ·rintro k hk rfl;obtain⟨rs,h1,_⟩:=hg;obtain⟨c,e⟩:=h1.kind hk;rw[hb]at e;cases e
 ·rintro k hk rfl;obtain⟨rs,h1,_⟩:=hw;obtain⟨c,e⟩:=h1.kind hk;rw[hb]at e;cases e
theorem gi.zE{base:Nat}{w:World}{v:Value}{rs:List (aP Value)}{gs:List (aP bE)}{p:aX->Bool}{q:aP bE->Bool}(h1:OwnRows base 114 16 w v ((rs.map aP.cells).filter (fun x=>!p x)))(h2:lg (aP.Reads (dv base w)) rs gs)
  (hpq:∀r g,aP.Reads (dv base w) r g->p r.cells=q g):gi base w v (gs.filter (fun g=>!q g))/\((rs.map aP.cells).filter (fun x=>!p x)).length=(gs.filter (fun g=>!q g)).length:=by
 have hb:lg (aP.Reads (dv base w)) (rs.filter (fun r=>!p r.cells)) (gs.filter (fun g=>!q g)):=h2.filter (fun r g h=>by rw[hpq r g h]);have he:(rs.map aP.cells).filter (fun x=>!p x)=(rs.filter (fun r=>!p r.cells)).map aP.cells:=by rw[List.filter_map];rfl
 refine⟨⟨_,by rw[he]at h1;exact h1,hb⟩,?_⟩;rw[he,ai,hb.len]
theorem BW{r:aP Value}{g:aP bE}(h:aP.Reads (dv base w) r g)(o:gA)(proxy:Bool)(aK:aj):KY o proxy aK r.cells=mX o proxy aK g:=by
 obtain⟨h1,h2,_,_,⟨_,h3,_⟩,_⟩:=h;unfold mX;rw[<-h1, <-h2, <-h3];rfl
def v8(base:Nat)(w:World)(b:Nat)(gv wv:Value)(gs:List (aP bE))(ws:List (bJ bE))(q:aP bE->Bool)(e:Ending)(w':World):Prop :=
 e=.returned (.bool (decide ((gs.filter (fun g=>!q g)).length<gs.length)))/\kE base w b gv wv (gs.filter (fun g=>!q g)) ws w'
theorem zF(base:Nat)(w:World)(b:Nat)(gv wv:Value)(gs:List (aP bE))(ws:List (bJ bE))(o:gA)(proxy:Bool)(aK:aj)(h:dE base w b gv wv gs ws) :
  aB 53 #[.pointer (some ⟨b,0,none⟩),.agg o.cells.toArray,.bool proxy,.string aK] w (v8 base w b gv wv gs ws (mX o proxy aK)):=by
 unfold gA.cells;obtain⟨av,cv,hv⟩:=h.bH.form;subst hv;have uf:=h.lt;have lo:=h.low;have pd:Fr aS w _:=(((ae aS w).alloc (.cells #[.bool o.aE,.string o.host,.int .i64 o.port] 32)).alloc (.cells #[.bool proxy] 4)).alloc (.cells #[.string aK] 9)
 have b0:(((w.alloc (.cells #[.bool o.aE,.string o.host,.int .i64 o.port] 32)).alloc (.cells #[.bool proxy] 4)).alloc (.cells #[.string aK] 9)).heap[w.heap.size]?=some (.cells #[.bool o.aE,.string o.host,.int .i64 o.port] 32 (0,0)):=by
  rw[Below.heap_alloc _ _ _ bI,Below.heap_alloc _ _ _ aR];exact aC _ _
 have b1:(((w.alloc (.cells #[.bool o.aE,.string o.host,.int .i64 o.port] 32)).alloc (.cells #[.bool proxy] 4)).alloc (.cells #[.string aK] 9)).heap[w.heap.size+1]?=some (.cells #[.bool proxy] 4 (0,0)):=by
  rw[Below.heap_alloc _ _ _ aR];have h:=aC (w.alloc (.cells #[.bool o.aE,.string o.host,.int .i64 o.port] 32)) (.cells #[.bool proxy] 4);simpa using h
 have b2:(((w.alloc (.cells #[.bool o.aE,.string o.host,.int .i64 o.port] 32)).alloc (.cells #[.bool proxy] 4)).alloc (.cells #[.string aK] 9)).heap[w.heap.size+2]?=some (.cells #[.string aK] 9 (0,0)):=by
  have h:=aC ((w.alloc (.cells #[.bool o.aE,.string o.host,.int .i64 o.port] 32)).alloc (.cells #[.bool proxy] 4)) (.cells #[.string aK] 9);simpa using h
 have h1:=h.dm pd;have h0:=h1.c0;have B0:=O b0;have B1:=O b1;have B2:=O b2;clear b0 b1 b2;go_enter func53,ntmps53;go_wp2_with fail
 clear h0;generalize ((w.alloc (.cells _ 32)).alloc _).alloc _=W at *
 obtain⟨rs,AO,qX⟩:=h1.bH;have eb:∀r∈rs,∀u∈r.cells,u.oneCell'=true:=fun r hr=>(AO.1 r.cells (b_.2 ⟨r,hr,rfl⟩)).2;have hW:w.heap.size<=W.heap.size:=pd.size;have X4:∀k,own (.slice av gs.length cv) k->k<w.heap.size:=fun k hk=>by
  obtain⟨c,e⟩:=h.tY hk;exact bj e
 have hd:=O (xA base 108 #[.pointer (some ⟨w.heap.size,0,none⟩),.pointer (some ⟨w.heap.size+1,0,none⟩),.pointer (some ⟨w.heap.size+1+1,0,none⟩)] (KY o proxy aK) _ _ W call108
  (Fi _ W o proxy aK w.heap.size (w.heap.size+1) (w.heap.size+1+1) rs eb B0.o B1.o B2.o (fun hk=>by have:=X4 _ hk;omega) (fun hk=>by have:=X4 _ hk;omega) (fun hk=>by have:=X4 _ hk;omega)) AO)
 refine hd.o.mono ?_;rintro e w2⟨a2,c2,rfl,xV,dB,fC⟩;have Vd:=qX.mono (fun _ _ h=>h.mono (fun _ _ h=>h.fr dB (fun k hk hl=>h1.off k (Or.inr (Or.inl hk)) hl)));obtain⟨XY,NJ⟩:=gi.zE xV Vd (fun r g h=>BW h o proxy aK);rw[NJ]at XY fC ⊢;have kB:=dB.keep h1.eL h1.gb;have eE:=h1.waits.fr dB (fun k hk hl=>h1.off k (Or.inr (Or.inl hk)) hl) (fun k hk hg=>h1.gw hg hk);have qR:=O (dE.aib lo kB XY eE)
 have c0:w2.cell? ⟨b,0,none⟩=some (.slice av gs.length cv):=by simp[World.cell?,kB]
 have f0:w2.frozen? ⟨b,0,none⟩=false:=by simp[World.frozen?,kB]
 have Zo:Fr (dw b (.slice av gs.length cv) wv) w w2:=fV (pd.mono (fun _ _ h=>absurd h id)) dB (fun k _ hk=>Or.inr (Or.inl hk));have HB:=Zo.setCell (p:=⟨b,0,none⟩) (fun _=>Or.inl rfl) (.slice a2 (gs.filter (fun g=>!mX o proxy aK g)).length c2);have ll:∀k,dw b (.slice a2 (gs.filter (fun g=>!mX o proxy aK g)).length c2) wv k->dw b (.slice av gs.length cv) wv k\/w.heap.size<=k:=by
  intro k hk;unfold dw at hk;rw[fC]at hk;exact Or.inl hk
 clear hd AO qX Vd xV kB eE XY h1 eb X4 NJ Zo;obtain⟨fs,kH⟩:∃fs,fs=gs.filter (fun g=>!mX o proxy aK g):=⟨_,rfl⟩;rw[<-kH]at qR fC HB ll ⊢;have Ve:=O kH;clear kH;go_wp2_with fail
 go_ret;unfold v8;rw[<-Ve.o];exact⟨fB aR,_,_,qR.o,HB,ll⟩
abbrev nK := @dE.aib
theorem RF(a:fK bE)(x:nt):a.scheme<=(pL a x).scheme:=by
 unfold pL;split
 ·exact hZ _
 ·split
  ·omega
  ·exact hZ _
theorem ZV:∀(l:List nt) (a:fK bE),a.scheme<=(l.foldl pL a).scheme
 |[],_=>hZ _
 |x :: l,a=>Int.le_trans (RF a x) (ZV l (pL a x))
theorem Qa:∀(l:List nt) (a:fK bE),l.foldl pL a=a\/∃x∈l,nd x=some (l.foldl pL a)
 |[],_=>Or.inl rfl
 |x :: l,a=>by
  rw[List.foldl_cons];rcases Qa l (pL a x)with h|⟨y,hy,h⟩
  ·rw[h];unfold pL;split
   ·exact Or.inl rfl
   ·rename_i b hb;split
    ·exact Or.inr ⟨x,cY .., hb⟩
    ·exact Or.inl rfl
  ·exact Or.inr ⟨y,bQ _ hy,h⟩
def SY(p:ig):Bool:=decide ((300:Int)<(p.1.size:Int)+(p.2.size:Int))
def My(ps:List ig):Bool:=decide (ps.length<=40)&&!(ps.any SY)
def QA:aX->ig
 |[.string a,.string b]=>(a,b)
 |_=>(ByteArray.empty,ByteArray.empty)
theorem abe(v:Value)(ps:List ig)(w:World)(hv:oL w v ps)(hl:ps.length<=140737488355328)(hz:∀p∈ps,p.1.size<=140737488351232/\p.2.size<=140737488351232) :
  aB 83 #[v] w fun e w'=>e=.returned (.bool (My ps))/\Fr aS w w':=by
 obtain⟨av,cv,fJ⟩:=hv.form;rw[ai]at fJ;subst fJ;have MV:=O (Cu _ #[] (fun x=>SY (QA x)) _ _ w call151 (fun x hx u _=>by
  obtain⟨p,hp,rfl⟩:=b_.1 hx;exact XB p.1 p.2 u (hz p hp).1 (hz p hp).2) hv)
 have jk:=O (show(ps.map ig.cells).any (fun x=>SY (QA x))=ps.any SY by rw[List.any_map];rfl);by_cases Hi:ps.length<=40
 ·have hb:=O (show My ps=!(ps.any SY)by unfold My;rw[bM Hi];rfl);have i40:(ps.length:Int)<=40:=ab;have d40:decide ((ps.length:Int)<=40)=true:=bM i40;go_enter func83,ntmps83;go_wp2_with fail
  refine MV.o.mono ?_;rw[jk.o];rintro e u⟨rfl,hf⟩;go_wp2;go_ret;exact⟨fB hb.o.symm,hf⟩
 ·have hb:=O (show My ps=false by unfold My;rw[bD Hi];rfl);have i40:¬(ps.length:Int)<=40:=ab;have d40:decide ((ps.length:Int)<=40)=false:=bD i40;go_enter func83,ntmps83;go_wp2;go_ret;exact⟨fB hb.o.symm,ae _ _⟩
def tO(l:Bs):Bs:=if l.getLast?=some 13 then l.dropLast else l
def trimB(l:Bs):Bs:=Lib.trimS l [32,9]
def C'(l:Bs):Option (Option jz) :=
 if(tO l).isEmpty then some none
 else if !(mE 58 (tO l)).2.2||!AH (mE 58 (tO l)).1 then none
 else some (some ((mE 58 (tO l)).1,trimB (mE 58 (tO l)).2.1))
def kV:List Bs->List jz->Except Nat (List jz)
 |[],acc=>.ok acc
 |l :: ls,acc =>
  match C' l with
  |none=>.error 3
  |some none=>kV ls acc
  |some (some p)=>if acc.length=40 then .error 4 else kV ls (acc++[p])
def mO(s:Bs):Except Nat (List jz):=if 3000<s.length then .error 4 else kV (ec 10 s) []
def xW(ps:List jz)(n:Bs):List Bs:=(ps.filter fun p=>dJ p.1 n).map (·.2)
def lr(ps:List jz)(n:Bs):Bs:=Lib.join (xW ps n) [44,32]
def qz(ps:List jz)(n:Bs):Bool:=!(xW ps n).isEmpty
theorem YS(x y:Bs)(l:List Bs)(sep:Bs):Lib.join (x :: y :: l) sep=x++(sep++Lib.join (y :: l) sep):=by
 simp[Lib.join,List.intercalate]
def qZ:Bs:=[65,99,99,101,115,115,45,67,111,110,116,114,111,108,45,65,108,108,111,119,45,79,114,105,103,105,110]
def Kl:Bs:=[65,99,99,101,115,115,45,67,111,110,116,114,111,108,45,65,108,108,111,119,45,67,114,101,100,101,110,116,105,97,108,115]
def Km:Bs:=[65,99,99,101,115,115,45,67,111,110,116,114,111,108,45,65,108,108,111,119,45,77,101,116,104,111,100,115]
def xX:Bs:=[65,99,99,101,115,115,45,67,111,110,116,114,111,108,45,65,108,108,111,119,45,72,101,97,100,101,114,115]
def Hw:Bs:=[65,99,99,101,115,115,45,67,111,110,116,114,111,108,45,77,97,120,45,65,103,101]
def Nf(t:Bs)(fN:Bool)(ps:List jz):Bool :=
 if !qz ps qZ then false
 else if(lr ps qZ== [42])&&!fN then true
 else if lr ps qZ !=t then false
 else !fN||(lr ps Kl==lS)
def ni(ps:List jz):Int:=if qz ps Hw then(if oK (lr ps Hw)then min (y_ (lr ps Hw)) 600 else 5)else 5
theorem Ng(ps:List jz):0<=ni ps/\ni ps<=600/\(qz ps Hw=true\/ni ps=5):=by
 unfold ni;split
 ·rename_i h;split
  ·rename_i hd;unfold oK at hd;simp only[cF]at hd;have:=xS (lr ps Hw) 0 hd.2 ag ag;unfold y_;exact⟨ab,ab,Or.inl h⟩
  ·exact⟨ag,ag,Or.inl h⟩
 ·exact⟨ag,ag,Or.inr rfl⟩
def lf(ps:List jz)(n:Bs):Option (List Bs) :=
 match g_ (lr ps n)with
 | .error _=>none
 | .ok l=>if 40<l.length then none else some l
def qj(ps:List eo)(p:eo):List eo:=if ps.any (fun q=>q.lj p)then ps else ps++[p]
def qY.Da(r:qY)(pT:Int)(m h:aj):eo:=⟨r.cX,r.o,r.path,r.query,r.fN,m,h,pT⟩
def qY.methods(r:qY)(ms:List Bs):List aj:=if ms.isEmpty then [jL r.method]else ms.map bA
def qY.bH(r:qY)(pT:Int)(ms hs:List Bs):List eo :=
 (hs.map fun h=>r.Da pT (bA []) (bA (nv h))).foldl qj ((r.methods ms |>.map fun m=>r.Da pT m (bA [])).foldl qj [])
def uw(r:qY)(t:Bs)(ps:List jz)(now:Int):Except Nat (List eo) :=
 match lf ps Km,lf ps xX with
 |some ms,some hs =>
  if !Nf t r.fN ps then .error 6
  else if !r.ng (r.bH (now+ni ps) ms hs)then .error 6
  else .ok (r.bH (now+ni ps) ms hs)
 |_,_=>.error 3
def xt(n p:Nat)(e:Ending)(w':World):Prop :=
 ∃g,e=.returned (.iface 211 (.pointer (some ⟨g,0,none⟩)))/\w'.heap[g]?=some (.cells #[.int .i64 n,.int .i64 p] 213 (0,0))
theorem xt.new(n p:Nat)(w:World):xt n p (.returned (.iface 211 (.pointer (some ⟨w.heap.size,0,none⟩)))) (w.alloc (.cells #[.int .i64 n,.int .i64 p] 213 (0,0))):=⟨_,rfl,aC _ _⟩
theorem tQ(b c i n:Nat)(s:aj)(v:Value)(w:World)(hr:iJ w b c s v)(h:dx w c s i) :
  aB 167 #[.pointer (some ⟨b,0,none⟩),.int .i64 n] w fun e w'=>xt n i e w'/\Fr aS w w':=by
 have q0:=hr.cell0;go_enter func167,ntmps167;go_wp2_with fail
 refine(AG c s i w h).mono ?_;rintro e w1⟨rfl,rfl⟩;go_wp2;go_ret;exact⟨xt.new n i w,(ae _ _).alloc _⟩
theorem mQ(l:Bs):(bA l).toList=l:=toList_mk l
def ou(p:jz):aX:=[.string (bA p.1),.string (bA p.2)]
def kK(w:World)(x:Nat)(sc tok:aj)(pv:Value):Prop:=w.heap[x]?=some (.cells #[.string sc,.string tok,pv] 198 (0,0))
section
variable {w w' : World} {x : Nat} {sc tok : ByteArray} {pv : Value}
theorem kK.cell0(h:kK w x sc tok pv):w.cell? ⟨x,0,none⟩=some (.string sc):=by simp[World.cell?,show w.heap[x]?=_ from h]
theorem kK.h_(h:kK w x sc tok pv):w.cell? ⟨x,1,none⟩=some (.string tok):=by simp[World.cell?,show w.heap[x]?=_ from h]
theorem kK.lT(h:kK w x sc tok pv):w.cell? ⟨x,2,none⟩=some pv:=by simp[World.cell?,show w.heap[x]?=_ from h]
theorem kK.free(h:kK w x sc tok pv)(k:Nat):w.frozen? ⟨x,k,none⟩=false:=by simp[World.frozen?,show w.heap[x]?=_ from h]
theorem kK.fr{S:dC}(h:kK w x sc tok pv)(hf:Fr S w w')(hn:¬S x):kK w' x sc tok pv:=hf.keep h hn
theorem kK.lt(h:kK w x sc tok pv):x<w.heap.size:=bj h
theorem kK.ne(h:kK w x sc tok pv)(g:dx w c t i):x≠c:=by
 intro e;subst e;have h':w.heap[x]?=_:=h;have g':w.heap[x]?=_:=g;rw[h']at g';simp at g'
theorem kK.neR(h:kK w x sc tok pv)(g:iJ w b c t v):x≠b:=by
 intro e;subst e;have h':w.heap[x]?=_:=h;have g':w.heap[x]?=_:=g;rw[h']at g';simp at g'
end
theorem OwnRows.BM(h:OwnRows base e k w v xs)(hg:v.ownBlock=some g):∃cur,w.heap[g]?=some (.cells cur e (0,0)):=by
 rcases h.2.2 with ⟨hv,_⟩|⟨g',cap,cur,hv,_,hh,_⟩
 ·rw[hv]at hg;simp[Value.ownBlock]at hg
 ·rw[hv]at hg;simp[Value.ownBlock]at hg;subst hg;exact⟨cur,hh⟩
theorem OwnRows.not{t:TypeId}{cs:bS}{f:Nat×Nat}(h:OwnRows base e k w v xs)(hb:w.heap[g]?=some (.cells cs t f))(ht:t≠e):v.ownBlock≠some g:=by
 intro hg;obtain⟨cur,hc⟩:=h.BM hg;rw[hc]at hb;cases hb;exact ht rfl
def xu(w:World)(x:Nat)(a b:aj):Prop:=w.heap[x]?=some (.cells #[.string a,.string b] 171 (0,0))
def H_(c x:Nat)(pv:Value):dC:=fun k=>k=c\/k=x\/pv.ownBlock=some k
def ob(base c x i:Nat)(s:aj)(ps:List jz)(sc tok:aj)(pv:Value)(w:World)(e:Ending)(w':World):Prop :=
 Fr (H_ c x pv) w w'/\match ld ps (s.data.toList.drop i)with
  | .error n=>∃p,xt n p e w'
  | .ok q=>e=.returned .nilIface/\∃j yJ,j<=s.size/\dx w' c s j/\s.data.toList.drop j=q.2/\kK w' x sc tok yJ/\OwnRows base 171 2 w' yJ ((ps++[q.1]).map ou)
theorem ob.bad{x n p:Nat}{s:aj}{sc tok:aj}{pv:Value}{w':World}{e:Ending}(h:ld ps (s.data.toList.drop i)=.error n)(hf:Fr (H_ c x pv) w w')(he:xt n p e w'):ob base c x i s ps sc tok pv w e w':=by
 refine⟨hf,?_⟩;rw[h];exact⟨p,he⟩
theorem H'(s:aj)(i:Nat):s.data.toList.drop (eL s (eL s (Jr s i)+1))=nH (s.data.toList.drop i):=by
 unfold nH;rw[<-vO, <-oM s (Jr s i),eB,oM]
def adl(base b c x P i:Nat)(s:aj)(v:Value)(ps:List jz)(sc tok:aj)(pv:Value)(W:Bs)(w wx:World):Prop :=
 ∃val j,j<=s.size/\dx wx c s j/\xu wx P (bA W) (bA val)/\iJ wx b c s v/\kK wx x sc tok pv/\OwnRows base 171 2 wx pv (ps.map ou)/\Fr (H_ c x pv) w wx /\
  ld ps (s.data.toList.drop i)=(if uk ps W then .error 9 else if ps.length=16 then .error 4 else .ok ((W,val),s.data.toList.drop j))
theorem QX(l:Bs)(k:Nat):gN l k=(AJ (l.drop k)).map fun q=>(q.1,l.length-q.2.length):=by
 unfold gN;rcases fH k l.length with h|h
 ·rw[List.getElem?_eq_getElem h,cU h];show _=Option.map _ (if l[k]==34 then vy (l.drop (k+1))else none);by_cases hq:l[k]=34
  ·rw[hq,az rfl,az bC];unfold sY;simp
  ·rw[aq (by simpa using hq),aq (by simpa using hq)];rfl
 ·rw[List.getElem?_eq_none h,cQ h,aq aR];rfl
theorem PG(l:Bs):(bA l).size=l.length:=rfl
def ahg(ps:List jz)(W:Bs)(w:World)(t:Value)(wr:World):Prop:=∃k:Nat,k<=ps.length/\t=.int .i64 k/\(ps.take k).any (fun q=>dJ q.1 W)=false/\Fr aS w wr
theorem vP{v:Bs}(h:ps[k]?=some (n,v))(hn:(ps.take k).any (fun q=>dJ q.1 W)=false)(hp:dJ n W=false):(ps.take (k+1)).any (fun q=>dJ q.1 W)=false:=by
 rw[cC,h];simp only[List.any_append,hn,Option.toList_some,List.any_cons,hp,List.any_nil,Bool.or_false]
theorem Uq{v:Bs}(h:ps[k]?=some (n,v))(hp:dJ n W=true):uk ps W=true:=by
 unfold uk;rw[List.any_eq_true];exact⟨_,cq h,hp⟩
theorem Ks:(prog.info? 171).map (fun i=>(i.zero,i.size,i.bytes))=some (some (.agg #[.string ⟨#[]⟩,.string ⟨#[]⟩]),2,32):=af
theorem PH(p:jz):∀u∈ou p,u.oneCell'=true:=by
 intro u hu;simp only[ou,bB,cz,dX]at hu;rcases hu with rfl|rfl<;>rfl
theorem Ur(ps:List jz):∀x∈ps.map ou,x.length=2/\∀u∈x,u.oneCell'=true:=by
 intro x hx;obtain⟨p,_,rfl⟩:=b_.1 hx;exact⟨rfl,PH p⟩
theorem xZ:∀(f:Nat) (r a z:Bs),r.length<=f->vy r=some (a,z)->z <:+ r
 |0,r,a,z,hf,h=>by
  have:r=[]:=cj ab;subst this;rw[vy.eq_def]at h;simp at h
 |f+1,[],a,z,hf,h=>by rw[vy.eq_def]at h;simp at h
 |f+1,x :: r,a,z,hf,h=>by
  rw[vy.eq_def]at h;simp only at h;by_cases h1:(x==34)=true
  ·rw[az h1]at h;cases h;exact jB _ _
  ·rw[aq h1]at h;by_cases h2:(x==92)=true
   ·rw[az h2]at h;cases r with
    |nil=>simp at h
    |cons y r' =>
     simp only at h;by_cases h3:nw y=true
     ·rw[az h3]at h;cases hq:vy r' with
      |none=>rw[hq]at h;simp at h
      |some p =>
       rw[hq]at h;simp at h;obtain⟨rfl,rfl⟩:=h;have:=xZ f r' p.1 p.2 (by simp at hf;omega) hq;exact(this.trans (jB _ _)).trans (jB _ _)
     ·rw[aq h3]at h;simp at h
   ·rw[aq h2]at h;by_cases h3:nw x=true
    ·rw[az h3]at h;cases hq:vy r with
     |none=>rw[hq]at h;simp at h
     |some p =>
      rw[hq]at h;simp at h;obtain⟨rfl,rfl⟩:=h;have:=xZ f r p.1 p.2 (by simp at hf;omega) hq;exact this.trans (jB _ _)
    ·rw[aq h3]at h;simp at h
theorem Kt(h:z <:+ l):l.drop (l.length-z.length)=z:=by
 obtain⟨t,rfl⟩:=h;rw[aN,Nat.add_sub_cancel,List.drop_left'];rfl
theorem Ku{a:Bs}(h:AJ (l.drop k)=some (a,z)):l.drop (l.length-z.length)=z:=by
 refine Kt (List.IsSuffix.trans ?_ (List.drop_suffix k l));cases hd:l.drop k with
 |nil=>rw[hd]at h;cases h
 |cons c t =>
  rw[hd]at h;have h':(if c==34 then vy t else none)=some (a,z):=h;by_cases hc:(c==34)=true
  ·rw[az hc]at h';exact(xZ _ t a z (ay _) h').trans (jB _ _)
  ·rw[aq hc]at h';cases h'
theorem QY(base b c x i:Nat)(s:aj)(v:Value)(ps:List jz)(sc tok:aj)(pv:Value)(w:World)(hr:iJ w b c s v)(h:dx w c s i)(hx:kK w x sc tok pv)(ho:OwnRows base 171 2 w pv (ps.map ou))(hb:base<=w.heap.size)
  (hs:s.size<100000)(hi:i<=s.size)(hl:ps.length<=16)(hz:∀p∈ps,p.1.length<100000) :
  aB 170 #[.pointer (some ⟨b,0,none⟩),.pointer (some ⟨x,0,none⟩)] w (ob base c x i s ps sc tok pv w):=by
 have hm:s.size<=maxLen:=fx;have hbc:=hr.ne h;have hxc:=hx.ne h;have Y0:=hx.neR hr;have Ia:pv.ownBlock≠some c:=ho.not h ag;have Di:pv.ownBlock≠some x:=ho.not hx ag;have hob:pv.ownBlock≠some b:=ho.not hr ag;have q0:=hr.cell0;have HN:=O (Kr s i);have HV:=O (H' s i);have hw:=Hz hi;have hk:=xY hw;have QZ:=(show ld ps (s.data.toList.drop i)=if !lI (s.data.toList.drop i)then .error 3 else
   match pI (nH (s.data.toList.drop i))with
   |none=>.error 3
   |some q=>if uk ps (ia (s.data.toList.drop i))then .error 9 else if ps.length=16 then .error 4 else .ok ((ia (s.data.toList.drop i),q.1),q.2)from rfl)
 have hPR:=O QZ;clear QZ;have EO:(ia (s.data.toList.drop i)).length<=s.size:=by
  have:=rk (s.data.toList.drop i);simp at this;omega
 go_enter func170,ntmps170;go_wp2_with fail
 refine(AG c s i w h).mono ?_;rintro e w0⟨rfl,rfl⟩;go_wp2_with fail
 refine(vB c s i w h hm hi).mono ?_;rintro e w1⟨rfl,pA,dr⟩;replace pA:dx w1 c s (Jr s i):=pA;rw[show s.extract i (cM fW s.data.toList i)=bA (ia (s.data.toList.drop i))from zj s i];generalize ia (s.data.toList.drop i)=W at *
 generalize Jr s i=K1 at *
 have yI:=hr.one h dr;have mM:=hx.fr dr hxc;have AO:=ho.fr dr (fun k hk e=>Ia (by rw[hk];exact ar some e));have lC:=O (show Fr (H_ c x pv) w w1 from dr.mono (fun k _ e=>Or.inl e));have q1:=yI.cell0;have q1a:∀o:Obj,(w1.alloc o).cell? ⟨b,0,none⟩=some (.pointer (some ⟨c,0,none⟩)):=fun o=>(yI.fr ((ae aS w1).alloc o) id).cell0;clear q0 dr;go_wp2_with fail
 obtain⟨wp,hwp⟩:∃wp,wp=w1.alloc (.cells #[.string (bA W),.string ⟨#[]⟩] 171):=⟨_,rfl⟩;have hpp:xu wp w1.heap.size (bA W) ⟨#[]⟩:=by rw[hwp];exact aC _ _
 have dB:Fr aS w1 wp:=by rw[hwp];exact(ae _ _).alloc _
 have ot:=yI.fr dB id;have sr:=pA.fr dB id;have PI:=mM.fr dB id;have qX:=AO.fr dB (fun _ _ h=>h);have f_:=O (lC.o.trans dB.nj);have q2:=ot.cell0;rw[<-hwp];generalize hP:w1.heap.size=P at *
 have Y1:P≠c:=by intro e;have:=pA.lt;omega
 have hPx:P≠x:=by intro e;have:=mM.lt;omega
 have hPb:P≠b:=by intro e;have:=yI.lt;omega
 have hPw:w.heap.size<=P:=by have:=lC.o.size;omega
 have auB:P<wp.heap.size:=bj hpp;have hoP:pv.ownBlock≠some P:=fun e=>by have:=AO.lt P e;omega
 clear q1 q1a hwp dB;refine(mB c s K1 wp sr hm hw).mono ?_;rintro e w3⟨rfl,uj,iz⟩;replace uj:dx w3 c s (eL s K1):=uj;generalize eL s K1=K2 at *
 have rF:=ot.one sr iz;have xv:=PI.fr iz hxc;have xV:=qX.fr iz (fun k hk e=>Ia (by rw[hk];exact ar some e));have hp3:xu w3 P (bA W) ⟨#[]⟩:=iz.keep hpp Y1;have iA:=O (f_.o.trans (iz.mono (fun k _ e=>Or.inl e)));have q3:=rF.cell0;have p0:w3.cell? ⟨P,0,none⟩=some (.string (bA W)):=by simp[World.cell?,show w3.heap[P]?=_ from hp3]
 clear q2 iz yI mM AO ot PI qX hpp pA sr;cases PJ:W.isEmpty
 case true =>
  have Dj:(bA W).toList=[]:=by rw[mQ];exact gF.1 PJ
  have Ay:((bA W).toList== [])=true:=dW.2 Dj;rw[PJ]at HN;have HE:=O (show ld ps (s.data.toList.drop i)=.error 3 by rw[hPR.o,HN.o];rfl);go_wp2_with fail
  refine(tQ b c K2 3 s v w3 rF uj).mono ?_;rintro e w4⟨⟨g,rfl,hg⟩,kQ⟩;go_wp2;go_ret;exact ob.bad HE.o (iA.o.trans kQ.nj) ⟨g,rfl,hg⟩
 case false =>
  have Dj:¬(bA W).toList=[]:=by rw[mQ];intro e;rw[e]at PJ;cases PJ
  have Ay:((bA W).toList== [])=false:=aL.2 Dj;have HN2:=O (show lI (s.data.toList.drop i)=km s K2 61 by rw[HN.o,PJ];rfl);clear HN PJ;go_wp2_with fail
  refine(p9 c s K2 61 w3 uj hm).mono ?_;rintro e w4⟨rfl,ug,kQ⟩;have vA:=rF.one uj kQ;have Y2:=xv.fr kQ hxc;have Tj:=xV.fr kQ (fun k hk e=>Ia (by rw[hk];exact ar some e));have hp4:xu w4 P (bA W) ⟨#[]⟩:=kQ.keep hp3 Y1;have jZ:=O (iA.o.trans (kQ.mono (fun k _ e=>Or.inl e)));have q4:=vA.cell0;have p0:w4.cell? ⟨P,0,none⟩=some (.string (bA W)):=by simp[World.cell?,show w4.heap[P]?=_ from hp4]
  clear q3 kQ rF xv xV hp3 uj;cases Pw:km s K2 61
  ·have HE:=O (show ld ps (s.data.toList.drop i)=.error 3 by rw[hPR.o,HN2.o,Pw];rfl);rw[pC Pw]at ug;go_wp2_with fail
   refine(tQ b c K2 3 s v w4 vA ug).mono ?_;rintro e w5⟨⟨g,rfl,hg⟩,lQ⟩;go_wp2;go_ret;exact ob.bad HE.o (jZ.o.trans lQ.nj) ⟨g,rfl,hg⟩
  ·rw[pB Pw]at ug;rw[HN2.o,Pw]at hPR;have rZ:K2+1<=s.size:=by
    have:=(List.getElem?_eq_some_iff.1 ((wS s K2 61).1 Pw)).1;have h2:K2<s.size:=by simpa using this
    omega
   go_wp2_with fail
   refine(mB c s (K2+1) w4 ug hm rZ).mono ?_;rintro e w5⟨rfl,uh,lQ⟩;replace uh:dx w5 c s (eL s (K2+1)):=uh;have Ib:=xY rZ;generalize eL s (K2+1)=K3 at *
   rw[<-HV.o]at hPR;have BN:=vA.one ug lQ;have hx5:=Y2.fr lQ hxc;have MN:=Tj.fr lQ (fun k hk e=>Ia (by rw[hk];exact ar some e));have hp5:xu w5 P (bA W) ⟨#[]⟩:=lQ.keep hp4 Y1;have xn:=O (jZ.o.trans (lQ.mono (fun k _ e=>Or.inl e)));have q5:=BN.cell0;clear q4 p0 lQ vA Y2 Tj hp4 ug;go_wp2_with fail
   refine(vB c s K3 w5 uh hm Ib).mono ?_;rintro e w6⟨rfl,MO,nF⟩;replace MO:dx w6 c s (Jr s K3):=MO;rw[show s.extract K3 (cM fW s.data.toList K3)=bA (ia (s.data.toList.drop K3))from zj s K3];have Kv:=Hz Ib
   have HVR:=O (show pI (s.data.toList.drop K3)=if(ia (s.data.toList.drop K3)).isEmpty then AJ (s.data.toList.drop K3)else some (ia (s.data.toList.drop K3),s.data.toList.drop (Jr s K3))by unfold pI;rw[vO]);have Y3:=O (show(ia (s.data.toList.drop K3)).isEmpty=true->Jr s K3=K3 from fun e=>by
    unfold Jr cM;have e2:(List.takeWhile fW (s.data.toList.drop K3))=[]:=gF.1 e;rw[e2];rfl)
   generalize ia (s.data.toList.drop K3)=V at *
   generalize Jr s K3=K4 at *
   have Js:=BN.one uh nF;have hx6:=hx5.fr nF hxc;have zm:=MN.fr nF (fun k hk e=>Ia (by rw[hk];exact ar some e));have hp6:xu w6 P (bA W) ⟨#[]⟩:=nF.keep hp5 Y1;have yH:=O (xn.o.trans (nF.mono (fun k _ e=>Or.inl e)));have p1:w6.cell? ⟨P,1,none⟩=some (.string ⟨#[]⟩):=by simp[World.cell?,show w6.heap[P]?=_ from hp6]
   have f1:w6.frozen? ⟨P,1,none⟩=false:=by simp[World.frozen?,show w6.heap[P]?=_ from hp6]
   clear q5 nF BN hx5 MN hp5 uh
   go_upto_if 52 with fail
   have Nl:∀u:aj,xu (w6.setCell ⟨P,1,none⟩ (.string u)) P (bA W) u:=fun u=>cg hp6 1 (.string u);have F7:∀u:Value,Fr (one P) w6 (w6.setCell ⟨P,1,none⟩ u):=fun u=>(ae (one P) w6).setCell (p:=⟨P,1,none⟩) (fun _=>rfl) u;have Jt:=O (show∀u:Value,Fr (H_ c x pv) w (w6.setCell ⟨P,1,none⟩ u)from fun u=>yH.o.step (F7 u) (fun k hk e=>by have e':k=P:=e;omega))
   have HS:=O (show∀u:Value,iJ (w6.setCell ⟨P,1,none⟩ u) b c s v/\dx (w6.setCell ⟨P,1,none⟩ u) c s K4/\kK (w6.setCell ⟨P,1,none⟩ u) x sc tok pv/\OwnRows base 171 2 (w6.setCell ⟨P,1,none⟩ u) pv (ps.map ou)from fun u =>
    ⟨Js.fr (F7 u) (fun e=>hPb (show b=P from e).symm),MO.fr (F7 u) (fun e=>Y1 (show c=P from e).symm),hx6.fr (F7 u) (fun e=>hPx (show x=P from e).symm),zm.fr (F7 u) (fun k hk e=>hoP (by rw[hk];exact ar some e))⟩)
   go_cut [] (fun wx=>adl base b c x P i s v ps sc tok pv W w wx)
   case first =>
    obtain⟨Tl,Y4,hx7,Y5⟩:=HS.o (.string (bA V));have Y6:=Nl (bA V);cases hVe:V.isEmpty
    case false =>
     have EZ:¬(bA V).toList=[]:=by rw[mQ];intro e;rw[e]at hVe;cases hVe
     have hv2:((bA V).toList== [])=false:=aL.2 EZ;have BD:(bA V).toList.isEmpty=false:=by rw[mQ];exact hVe
     have Us:=O (show pI (s.data.toList.drop K3)=some (V,s.data.toList.drop K4)by rw[HVR.o,hVe];rfl);rw[BD];go_wp2_with fail
     go_meet
     refine⟨V,K4,Kv,Y4,Y6,Tl,hx7,Y5,Jt.o _,?_⟩;rw[hPR.o,Us.o];rfl
    case true =>
     have BD:(bA V).toList.isEmpty=true:=by rw[mQ];exact hVe
     have hK4:=Y3.o hVe;subst hK4;have q7:=Tl.cell0;have p71:(w6.setCell ⟨P,1,none⟩ (.string (bA V))).cell? ⟨P,1,none⟩=some (.string (bA V)):=by simp[World.cell?,show(w6.setCell ⟨P,1,none⟩ (.string (bA V))).heap[P]?=_ from Y6]
     rw[BD];go_wp2_with fail
     refine(M3 c s K4 _ Y4 ab).mono ?_;intro e w8 hq;have HQA:=O (QX s.data.toList K4);cases hqr:AJ (s.data.toList.drop K4)with
     |none =>
      have hqa:gN s.data.toList K4=none:=by rw[HQA.o,hqr];rfl
      obtain⟨rfl,hc8,sH⟩:=hq.isNone hqa;have Us:=O (show pI (s.data.toList.drop K4)=none by rw[HVR.o,hVe];exact hqr);have Ut:=Tl.one Y4 sH;have hp8:xu w8 P (bA W) (bA V):=sH.keep Y6 Y1;have Q0:=O ((Jt.o (.string (bA V))).trans (sH.mono (fun k _ e=>Or.inl e)));have Dk:Fr (one P) w8 (w8.setCell ⟨P,1,none⟩ (.string ⟨#[]⟩)):=(ae (one P) w8).setCell (p:=⟨P,1,none⟩) (fun _=>rfl) _
      have hr9:=Ut.fr Dk (fun e=>hPb (show b=P from e).symm);have hc9:=hc8.fr Dk (fun e=>Y1 (show c=P from e).symm);have XU:=O (show Fr (H_ c x pv) w (w8.setCell ⟨P,1,none⟩ (.string ⟨#[]⟩))from Q0.o.step Dk (fun k hk e=>by have e':k=P:=e;omega));have q8:=Ut.cell0;have q9:=hr9.cell0;have p8:w8.cell? ⟨P,1,none⟩=some (.string (bA V)):=by simp[World.cell?,show w8.heap[P]?=_ from hp8]
      have f8:w8.frozen? ⟨P,1,none⟩=false:=by simp[World.frozen?,show w8.heap[P]?=_ from hp8]
      clear q7 p71 hq sH Dk;go_wp2_with fail
      refine(tQ b c K4 3 s v _ hr9 hc9).mono ?_;rintro e w10⟨⟨g,rfl,hg⟩,Nn⟩;go_wp2;go_ret;exact ob.bad (by rw[hPR.o,Us.o];rfl) (XU.o.trans Nn.nj) ⟨g,rfl,hg⟩
     |some q =>
      obtain⟨a,z⟩:=q;have hqa:gN s.data.toList K4=some (a,s.data.toList.length-z.length):=by rw[HQA.o,hqr];rfl
      obtain⟨rfl,hc8,sH⟩:=hq.isOk hqa;have Us:=O (show pI (s.data.toList.drop K4)=some (a,z)by rw[HVR.o,hVe];exact hqr);have hzd:=O (Ku hqr);have Ut:=Tl.one Y4 sH;have hx8:=hx7.fr sH hxc;have Tm:=Y5.fr sH (fun k hk e=>Ia (by rw[hk];exact ar some e));have hp8:xu w8 P (bA W) (bA V):=sH.keep Y6 Y1;have Q0:=O ((Jt.o (.string (bA V))).trans (sH.mono (fun k _ e=>Or.inl e)))
      have Dk:Fr (one P) w8 (w8.setCell ⟨P,1,none⟩ (.string (bA a))):=(ae (one P) w8).setCell (p:=⟨P,1,none⟩) (fun _=>rfl) _;have hr9:=Ut.fr Dk (fun e=>hPb (show b=P from e).symm);have hc9:=hc8.fr Dk (fun e=>Y1 (show c=P from e).symm);have hx9:=hx8.fr Dk (fun e=>hPx (show x=P from e).symm);have Y7:=Tm.fr Dk (fun k hk e=>hoP (by rw[hk];exact ar some e))
      have hp9:xu (w8.setCell ⟨P,1,none⟩ (.string (bA a))) P (bA W) (bA a):=cg hp8 1 (.string (bA a));have XU:=O (show Fr (H_ c x pv) w (w8.setCell ⟨P,1,none⟩ (.string (bA a)))from Q0.o.step Dk (fun k hk e=>by have e':k=P:=e;omega));have p8:w8.cell? ⟨P,1,none⟩=some (.string (bA V)):=by simp[World.cell?,show w8.heap[P]?=_ from hp8]
      have f8:w8.frozen? ⟨P,1,none⟩=false:=by simp[World.frozen?,show w8.heap[P]?=_ from hp8]
      clear q7 p71 hq sH Dk;go_wp2_with fail
      go_meet
      refine⟨a,_,?_,hc9,hp9,hr9,hx9,Y7,XU.o,?_⟩
      ·simp
      ·rw[hPR.o,Us.o,show s.data.toList.drop (s.data.toList.length-z.length)=z from hzd.o];rfl
   case rest =>
   obtain⟨val,j,hj,Y4,Y6,Tl,hx7,Y5,ov,yK⟩:=hcut;have Ju:=O yK;have Y8:=O ov;clear hPR yK ov HVR Y3 Nl F7 Jt HS Js hx6 zm hp6 MO p1 f1;have Uu:w.heap.size<=wc.heap.size:=Y8.o.size;have iE:base<=wc.heap.size:=aG hb Uu;have Th:=Y5.form;obtain⟨av,cv,ahl⟩:=Th;rw[ai]at ahl;subst ahl;have lY:=Y5.at;have x2:=hx7.lT;have xf2:=hx7.free 2
   have p0:wc.cell? ⟨P,0,none⟩=some (.string (bA W)):=by simp[World.cell?,show wc.heap[P]?=_ from Y6]
   have p1:wc.cell? ⟨P,1,none⟩=some (.string (bA val)):=by simp[World.cell?,show wc.heap[P]?=_ from Y6]
   have HPA:=O (show∀U,Fr aS wc U->U.cell? ⟨P,0,none⟩=some (.string (bA W))/\U.cell? ⟨P,1,none⟩=some (.string (bA val))/\U.cell? ⟨x,2,none⟩=some (.slice av ps.length cv)/\U.frozen? ⟨x,2,none⟩=false from fun U hU=>by
    have j1:=hU.keep Y6 id;have j2:=hx7.fr hU id;exact⟨by simp[World.cell?,j1],by simp[World.cell?,j1],j2.lT,j2.free 2⟩)
   go_wp2_with fail
   go_loopw[71] (ahg ps W wc) (fun t _=>ps.length-(intOf t).toNat)
   case atStart=>exact⟨0,aQ _,rfl,rfl,ae _ _⟩
   case round =>
    obtain⟨k,hkl,rfl,hn,cL⟩:=hrel;have HN:=O hn;clear hn p0 p1 x2 xf2;obtain⟨p0,p1,x2,xf2⟩:=HPA.o wr cL;by_cases fo:k<ps.length
    ·have pq:(k:Int)<(ps.length:Int):=ab;have dT:=O (List.getElem?_eq_getElem fo);have XV:=hz _ (bN fo);generalize ps[k]=q at dT XV;obtain⟨nm,vl⟩:=q;rcases(bh lY cL).2 with ⟨_,_,_,e,_⟩|⟨bk,of,c',dr,h1,h2,h3,h4⟩
     ·have:ps.length=0:=by have:=ar List.length e;simpa using this
      omega
     rw[ai]at dr h1;cases dr;unfold maxLen at h2;have hcell:=h4 k (ou (nm,vl)) (by rw[List.getElem?_map,dT.o];rfl);have c0:wr.cell? ⟨bk,of+k*2,none⟩=some (.string (bA nm)):=hcell 0 _ rfl;have c1:wr.cell? ⟨bk,of+k*2+1,none⟩=some (.string (bA vl)):=hcell 1 _ rfl;clear hcell h4;obtain⟨wb,j6⟩:∃wb,wb=wr.alloc (.cells #[.string (bA nm),.string (bA vl)] 171):=⟨_,rfl⟩
     have ks:Fr aS wr wb:=by rw[j6];exact(ae aS wr).alloc _
     have p0a:∀o:Obj,(wr.alloc o).cell? ⟨P,0,none⟩=some (.string (bA W)):=fun o=>(HPA.o _ (cL.alloc o)).1;have qV:=O j6;have mr:=O (cL.trans ks);clear j6 ks;go_wp2_with fail
     rw[<-qV.o];refine(mA (bA nm) (bA W) wb (by rw[PG];have auG:nm.length<100000:=XV;omega) (by rw[PG];omega)).mono ?_;rintro e w8⟨rfl,sH⟩;rw[fU,fU];have Q0:=O (mr.o.trans sH);cases pj:dJ nm W
     ·have qe:=O (show(ps.take (k+1)).any (fun q=>dJ q.1 W)=false from vP dT.o HN.o pj);go_wp2;go_roundw
      case rel=>exact⟨k+1,ab,bg,qe.o,Q0.o⟩
      case measure=>simp[intOf];omega
     ·have HE:=O (show ld ps (s.data.toList.drop i)=.error 9 by rw[Ju.o,az (Uq dT.o pj)]);go_wp2;go_ret;exact ob.bad HE.o ((Y8.o.trans Q0.o.nj).alloc _) (xt.new 9 i w8)
    ·have pq:¬(k:Int)<(ps.length:Int):=ab;have HT:=O (show uk ps W=false by have h:=HN.o;rw[aD ab]at h;exact h);rw[HT.o]at Ju;by_cases Uv:ps.length=16
     ·have ahm:((ps.length:Int)==16)=true:=by rw[Uv];rfl
      have HE:=O (show ld ps (s.data.toList.drop i)=.error 4 by rw[Ju.o,az Uv];rfl);clear Uv;go_wp2;go_ret;exact ob.bad HE.o ((Y8.o.trans cL.nj).alloc _) (xt.new 4 i wr)
     ·have ahm:((ps.length:Int)==16)=false:=aL.2 ab;have HE:=O (show ld ps (s.data.toList.drop i)=.ok ((W,val),s.data.toList.drop j)by rw[Ju.o,aq Uv];rfl);have Uw:=Y8.o.trans (cL.nj (S:=H_ c x (.slice av ps.length cv)));have hcr:=Y4.fr cL id;have hxr:=hx7.fr cL id;have hor:=Y5.fr cL (fun _ _ h=>h);have hbr:base<=wr.heap.size:=aG iE cL.size
      have cR:wr.ownsRow base 171 2 (.slice av ps.length cv) ps.length (ps.map ou).flatten:=by
       have hh:=hor.2;rw[ai]at hh;exact hh
      have hPl:P<wr.heap.size:=cP (bj Y6) cL.size;have ow:x<wr.heap.size:=hxr.lt;have xr:c<wr.heap.size:=hcr.lt;obtain⟨i0,qA,po,k_,lp⟩:=info_parts Ks;have xc:=O (show∀u∈ou (W,val),u.oneCell'=true from PH _);have hps:ps.length<16:=ab;clear ahm lY hz HN;go_wp2_with fail
      go_region_law ((with_reducible refine mP ⟨some 102,_,_,_,_,_⟩ ?_)
                     refine step_append_lies _ bC _ _ _ bC base 171 i0 _ 2 32 underlying35 qA po k_ lp rfl ab (.slice av ps.length cv) ps.length _ bC (by repeat(first|exact cR|apply World.ownsRow.alloc|apply World.ownsRow.drew)) ⟨wr.heap.size,0,none⟩ 1 1 (ou (W,val)) bC bC (kR wr (ou (W,val)) _) xc.o ab fx ab bI (wr.heap.size+1) aR ?_
                     intro gg cap w5 vQ jC Ux adp
                     have q_:Fr (fun k=>(Value.slice av ps.length cv).ownBlock=some k) wr w5:=fq (by repeat(first|exact ae _ _|apply aA|apply bz)) jC (fun _ hk _=>hk)
                     have k4:w5.cell? ⟨x,2,none⟩=some (.slice av ps.length cv):=(q_.cell (p:=⟨x,2,none⟩) ow Di).trans x2
                     have e4:w5.frozen? ⟨x,2,none⟩=false:=(q_.frozen (p:=⟨x,2,none⟩) ow Di).trans xf2)
      all_goals
       have hx5:kK w5 x sc tok (.slice av ps.length cv):=hxr.fr q_ Di;have uh:dx w5 c s j:=hcr.fr q_ Ia;have J2:Fr (one x) w5 (w5.setCell ⟨x,2,none⟩ (.slice (some ⟨gg,0,none⟩) (ps.length+1) cap)):=(ae (one x) w5).setCell (p:=⟨x,2,none⟩) (fun _=>rfl) _;have hx6:kK (w5.setCell ⟨x,2,none⟩ (.slice (some ⟨gg,0,none⟩) (ps.length+1) cap)) x sc tok (.slice (some ⟨gg,0,none⟩) (ps.length+1) cap):=cg hx5 2 _
       have MO:=uh.fr J2 (fun e=>hxc (show c=x from e).symm);have hgx:gg≠x:=by
        rintro rfl;rcases Ux with e|e
        ·exact Di e
        ·omega
       have MN:OwnRows base 171 2 w5 (.slice (some ⟨gg,0,none⟩) (ps.length+1) cap) ((ps++[(W,val)]).map ou):=by
        refine⟨Ur _,?_⟩;have e1:((ps++[(W,val)]).map ou).length=ps.length+1:=aR;have e2:((ps++[(W,val)]).map ou).flatten=(ps.map ou).flatten++ou (W,val):=aR;rw[e1,e2];exact vQ
       have zm:=MN.fr J2 (fun k hk e=>hgx (by
        simp only[Value.ownBlock,ez]at hk;rw[hk];exact e))
       have Q2:=O (show Fr (H_ c x (.slice av ps.length cv)) w (w5.setCell ⟨x,2,none⟩ (.slice (some ⟨gg,0,none⟩) (ps.length+1) cap))from
        (Uw.trans (q_.mono (fun k _ e=>Or.inr (Or.inr e)))).trans (J2.mono (fun k _ e=>Or.inr (Or.inl e))))
       clear k4 e4 jC vQ cR q_;go_wp2;go_ret;refine⟨Q2.o,?_⟩;rw[HE.o];exact⟨rfl,j,_,hj,MO,rfl,hx6,zm⟩
theorem NH(o:gA)(path query:aj)(w:World)(h1:path.size<100000)(h2:query.size<100000) :
  aB 52 #[.agg #[.bool o.aE,.string o.host,.int .i64 o.port,.string path,.string query]] w fun e w'=>e=.returned (.string (nJ path query))/\Fr aS w w':=by
 by_cases h0:query.size=0
 ·have HT:=O (show nJ path query=path by unfold nJ;rw[az h0]);have t1:query.toList=[]:=by rw[aO];exact gX.2 h0
  have t2:query.toList.isEmpty=true:=by rw[t1];rfl
  go_enter func52,ntmps52;go_wp2;go_ret;exact⟨by rw[HT.o];rfl,(ae aS w).alloc _⟩
 ·have HT:=O (show nJ path query=(path++⟨#[63]⟩)++query by unfold nJ;rw[aq h0]);have t1:¬query.toList=[]:=by rw[aO];exact fun h=>h0 (gX.1 h)
  have t2:query.toList.isEmpty=false:=by simpa using t1
  go_enter func52,ntmps52;go_wp2;go_ret;exact⟨by rw[HT.o];rfl,(ae aS w).alloc _⟩
def vq(gs:List (aP bE))(g:aP bE):List (aP bE) :=
 let l:=gs.filter (fun x=>!mX g.o g.proxy g.a.aK x)++[g]
 l.drop (l.length-8)
def Iy(base:Nat)(w:World)(b:Nat)(gv wv:Value)(gs:List (aP bE))(ws:List (bJ bE))(e:Ending)(w':World):Prop :=
 e=.returned (.tuple #[])/\kE base w b gv wv gs ws w'
theorem Gp{base:Nat}{w2 w3 w4:World}{b:Nat}{gv wv:Value}{fs:List (aP bE)}{ws:List (bJ bE)}{m:aP bE}{r3:aP Value}{rs:List (aP Value)}{gg cap:Nat}(h2:dE base w2 b gv wv fs ws)
  (ho:OwnRows base 114 16 w2 gv (rs.map aP.cells))(kB:lg (aP.Reads (dv base w2)) rs fs)(iz:Fr aS w2 w3)(rF:aP.Reads (dv base w3) r3 m)(qM:∀u∈r3.cells,u.oneCell'=true)(kQ:Fr (own gv) w3 w4)
  (fa:w4.ownsRow base 114 16 (.slice (some ⟨gg,0,none⟩) (fs.length+1) cap) (fs.length+1) ((rs.map aP.cells).flatten++r3.cells))(dT:gv.ownBlock=some gg\/w2.heap.size<=gg) :
  dE base (w4.setCell ⟨b,0,none⟩ (.slice (some ⟨gg,0,none⟩) (fs.length+1) cap)) b (.slice (some ⟨gg,0,none⟩) (fs.length+1) cap) wv (fs++[m]) ws /\
  Fr (dw b gv wv) w2 (w4.setCell ⟨b,0,none⟩ (.slice (some ⟨gg,0,none⟩) (fs.length+1) cap))/\∀k,dw b (.slice (some ⟨gg,0,none⟩) (fs.length+1) cap) wv k->dw b gv wv k\/w2.heap.size<=k:=by
 have lo:=h2.low;have ve:=kB.len;have xV:=ho.fr iz (fun _ _ h=>h);have DX:rY base w3 (own gv):=xV.off (ay _) ag;have tV:lg (aP.Reads (dv base w4)) (rs++[r3]) (fs++[m]) :=
  (kB.mono (fun _ _ h=>h.mono (fun _ _ h=>(h.dm iz).fr kQ DX))).app (.cons (rF.mono (fun _ _ h=>h.fr kQ DX)) .nil)
 have Ci:gi base w4 (.slice (some ⟨gg,0,none⟩) (fs.length+1) cap) (fs++[m]):=by
  refine⟨rs++[r3],⟨?_,?_⟩,tV⟩
  ·intro x hx;rw[bG]at hx;rcases bR.1 hx with hx|hx
   ·exact ho.1 x hx
   ·simp at hx;subst hx;exact⟨rfl,qM⟩
  ·rw[bG,en,aN,ai,ve];simpa using fa
 have h3:=h2.dm iz;have sX:=kQ.keep h3.eL h3.gb;have qC:ki base w4 wv ws:=h3.waits.fr kQ DX (fun k hk hg=>h3.gw hg hk);have Uw:Fr (dw b gv wv) w2 w4:=fV (iz.mono (fun _ _ h=>absurd h id)) kQ (fun _ _ hk=>Or.inr (Or.inl hk));refine⟨nK lo sX Ci qC,Uw.setCell (p:=⟨b,0,none⟩) (fun _=>Or.inl rfl) _,?_⟩;rintro k(hk|hk|hk)
 ·exact Or.inl (Or.inl hk)
 ·have e:gg=k:=by simpa[own,Value.ownBlock]using hk
  subst e;rcases dT with dT|dT
  ·exact Or.inl (Or.inr (Or.inl dT))
  ·exact Or.inr dT
 ·exact Or.inl (Or.inr (Or.inr hk))
theorem K_{base:Nat}{w5 w6:World}{b gg cap n:Nat}{wv:Value}{ls:List (aP bE)}{ws:List (bJ bE)}{rs:List (aP Value)}(h5:dE base w5 b (.slice (some ⟨gg,0,none⟩) ls.length cap) wv ls ws)
  (hb:lg (aP.Reads (dv base w5)) rs ls)(zm:OwnRows base 114 16 w6 (.slice (some ⟨gg,0,none⟩) (0+(ls.length-n)) cap) ((rs.map aP.cells).take 0++(rs.map aP.cells).drop n))(nF:Fr (one gg) w5 w6) :
  dE base (w6.setCell ⟨b,0,none⟩ (.slice (some ⟨gg,0,none⟩) (0+(ls.length-n)) cap)) b (.slice (some ⟨gg,0,none⟩) (0+(ls.length-n)) cap) wv (ls.drop n) ws /\
  Fr (dw b (.slice (some ⟨gg,0,none⟩) ls.length cap) wv) w5 (w6.setCell ⟨b,0,none⟩ (.slice (some ⟨gg,0,none⟩) (0+(ls.length-n)) cap))/\w6.cell? ⟨b,0,none⟩=some (.slice (some ⟨gg,0,none⟩) ls.length cap)/\w6.frozen? ⟨b,0,none⟩=false:=by
 have lo:=h5.low;have eb:∀k,one gg k->own (.slice (some ⟨gg,0,none⟩) ls.length cap) k:=fun k hk=>by have e:k=gg:=hk;rw[e];rfl
 have mS:rY base w5 (one gg):=fun k hk hl=>h5.off k (Or.inr (Or.inl (eb k hk))) hl;have sX:=nF.keep h5.eL (fun h=>h5.gb (eb _ h));have zG:ki base w6 wv ws:=h5.waits.fr nF mS (fun k hk hg=>h5.gw (eb _ hg) hk);have hg6:gi base w6 (.slice (some ⟨gg,0,none⟩) (0+(ls.length-n)) cap) (ls.drop n):=by
  refine⟨rs.drop n,?_,(hb.mono (fun _ _ h=>h.mono (fun _ _ h=>h.fr nF mS))).drop n⟩;rw[List.take_zero,List.nil_append]at zm;rw[List.map_drop];exact zm
 have Uw:Fr (dw b (.slice (some ⟨gg,0,none⟩) ls.length cap) wv) w5 w6:=nF.mono (fun k _ hk=>Or.inr (Or.inl (eb k hk)));exact⟨nK lo sX hg6 zG,Uw.setCell (p:=⟨b,0,none⟩) (fun _=>Or.inl rfl) _,by simp[World.cell?,sX],by simp[World.frozen?,sX]⟩
theorem P7(base:Nat)(w:World)(b:Nat)(gv wv:Value)(gs:List (aP bE))(ws:List (bJ bE))(g:aP Value)(m:aP bE)(h:dE base w b gv wv gs ws)(hg:g.Reads (dv base w) m)(NJ:gs.length<34359738368) :
  aB 57 #[.pointer (some ⟨b,0,none⟩),.agg g.cells.toArray] w (Iy base w b gv wv (vq gs m) ws):=by
 obtain⟨x,hx⟩:∃x,x=g.cells:=⟨_,rfl⟩;have lB:x.length=16:=by rw[hx];rfl
 have uf:=h.lt;have lo:=h.low;have pd:Fr aS w (w.alloc (.cells x.toArray 114)):=(ae aS w).alloc _;have h1:=h.dm pd;have FF:=hg.mono (fun _ _ h=>h.dm pd);have qk:(w.alloc (.cells x.toArray 114)).heap[w.heap.size]?=some (.cells x.toArray 114 (0,0)):=aC _ _;have np:∀i u,g.cells[i]?=some u->(w.alloc (.cells x.toArray 114)).cell? ⟨w.heap.size,i,none⟩=some u:=fun i u hu=>by
  rw[<-hx]at hu;simp only[World.cell?,qk];simpa using hu
 have c0:=np 0 _ rfl;have c1:=np 1 _ rfl;have c2:=np 2 _ rfl;have c3:=np 3 _ rfl;have c7:=np 7 _ rfl;have sO:=O (zF base _ b gv wv gs ws g.o g.proxy g.a.aK h1);have tR:=O qk;have HG:=O FF;have HX:=O hx;rw[<-hx];clear hg FF qk np hx;go_enter func57,ntmps57;go_wp2_with fail
 clear c0 c1 c2 c3 c7;have EO:w.heap.size<(w.alloc (.cells x.toArray 114)).heap.size:=aR;generalize w.alloc (.cells x.toArray 114)=W at *
 refine sO.o.mono ?_;intro e w2 hpd;obtain⟨rfl,gv2,wv2,h2,dB,La⟩:=hpd;have mS:=h1.off;have qe:¬dw b gv wv w.heap.size:=by
  rintro(e|hk|hk)
  ·omega
  ·obtain⟨c,e⟩:=h.tY hk;have:=bj e;omega
  ·obtain⟨c,e⟩:=h.vZ hk;have:=bj e;omega
 have zH:=O (dB.keep tR.o qe);have xk:=O (HG.o.mono (fun _ _ h=>h.fr dB mS));have Zz:(gs.filter (fun g_1=>!mX g.o g.proxy g.a.aK g_1)).length<=gs.length:=bU _ _;obtain⟨fs,kH⟩:∃fs,fs=gs.filter (fun g_1=>!mX g.o g.proxy g.a.aK g_1):=⟨_,rfl⟩;rw[<-kH]at h2 Zz ⊢;have Ve:=O kH;have jq:Fr (dw b gv wv) w w2:=fV (pd.mono (fun _ _ h=>absurd h id)) dB (fun _ _ h=>h);clear sO pd dB mS kH h1 h tR HG
 have DH:=O (show vq gs m=(fs++[m]).drop (fs.length+1-8)by
  have hr:=xk.o;unfold vq;rw[<-hr.1, <-hr.2.1, <-hr.2.2.2.2.1.2.1, <-Ve.o];simp)
 obtain⟨av,cv,Va⟩:=h2.bH.form;subst Va;have d0:=h2.c0;have e0:=h2.free 0;obtain⟨rs,ho,kB⟩:=h2.bH;have cR:=ho.2;have ow:∀i u,g.cells[i]?=some u->w2.cell? ⟨w.heap.size,i,none⟩=some u:=fun i u hu=>by
  have e:=HX.o;rw[<-e]at hu;simp only[World.cell?,zH.o];simpa using hu
 have x0:=ow 0 _ rfl;have x1:=ow 1 _ rfl;have x2:=ow 2 _ rfl;have x3:=ow 3 _ rfl;have x4:=ow 4 _ rfl;have x5:=ow 5 _ rfl;have x6:=ow 6 _ rfl;have x7:=ow 7 _ rfl;have x8:=ow 8 _ rfl;have x9:=ow 9 _ rfl;have ZA:=ow 10 _ rfl;have ZB:=ow 11 _ rfl;have x12:=ow 12 _ rfl;have x13:=ow 13 _ rfl;have x14:=ow 14 _ rfl;have x15:=ow 15 _ rfl;have ZC:¬own (.slice av fs.length cv) w.heap.size:=fun hk=>by
  rcases La _ (Or.inr (Or.inl hk))with h|h
  ·exact qe h
  ·omega
 have fD:=O (show∀U,Fr aS w2 U->aB 93 #[.agg #[.bool g.o.aE,.string g.o.host,.int .i64 g.o.port,.bool g.proxy,.string g.user,.string g.pass,.int .i64 g.a.scheme,.string g.a.aK,.string g.a.bq,.string g.a.cy,.bool g.a.cA,.string g.a.eH,.bool g.a.cN,g.a.dom,.int .i64 g.count,g.paths]] U (U9 base m U)from fun U hU=>by
  exact uE base g m U (by have:=h2.lt;have:=hU.size;omega) (xk.o.mono (fun _ _ h=>h.dm hU)))
 obtain⟨i0,qA,po,k_,lp⟩:=info_parts yh;have HO:=O ho;have pV:=O kB;have ve:=kB.len;have hkl:=O (show(rs.map aP.cells).length=fs.length by rw[ai,ve]);have au7:base<=w2.heap.size:=by have:=h2.lt;omega
 have Ay:¬own (.slice av fs.length cv) b:=h2.gb
 have DY:=O (show∀U,Fr (own (.slice av fs.length cv)) w2 U->U.cell? ⟨b,0,none⟩=some (.slice av fs.length cv)/\U.cell? ⟨w.heap.size,0,none⟩=some (.bool g.o.aE)/\U.cell? ⟨w.heap.size,1,none⟩=some (.string g.o.host)/\U.cell? ⟨w.heap.size,2,none⟩=some (.int .i64 g.o.port)/\U.cell? ⟨w.heap.size,3,none⟩=some (.bool g.proxy)/\U.cell? ⟨w.heap.size,4,none⟩=some (.string g.user)/\U.cell? ⟨w.heap.size,5,none⟩=some (.string g.pass)/\U.cell? ⟨w.heap.size,6,none⟩=some (.int .i64 g.a.scheme)/\U.cell? ⟨w.heap.size,7,none⟩=some (.string g.a.aK)/\U.cell? ⟨w.heap.size,8,none⟩=some (.string g.a.bq)/\U.cell? ⟨w.heap.size,9,none⟩=some (.string g.a.cy)/\U.cell? ⟨w.heap.size,10,none⟩=some (.bool g.a.cA)/\U.cell? ⟨w.heap.size,11,none⟩=some (.string g.a.eH)/\U.cell? ⟨w.heap.size,12,none⟩=some (.bool g.a.cN)/\U.cell? ⟨w.heap.size,13,none⟩=some (g.a.dom)/\U.cell? ⟨w.heap.size,14,none⟩=some (.int .i64 g.count)/\U.cell? ⟨w.heap.size,15,none⟩=some (g.paths)from fun U hU=>by
  have hc:∀i u,g.cells[i]?=some u->U.cell? ⟨w.heap.size,i,none⟩=some u:=fun i u hu=>(hU.cell (p:=⟨w.heap.size,i,none⟩) (bj zH.o) ZC).trans (ow i u hu);exact⟨(hU.cell (p:=⟨b,0,none⟩) h2.lt Ay).trans d0,hc 0 _ rfl,hc 1 _ rfl,hc 2 _ rfl,hc 3 _ rfl,hc 4 _ rfl,hc 5 _ rfl,hc 6 _ rfl,hc 7 _ rfl,hc 8 _ rfl,hc 9 _ rfl,hc 10 _ rfl,hc 11 _ rfl,hc 12 _ rfl,hc 13 _ rfl,hc 14 _ rfl,hc 15 _ rfl⟩)
 clear ho kB ve cR ow;go_wp2_with fail
 go_region_law (first
   |((with_reducible refine mP ⟨some 20,_,_,_,_,_⟩ ?_)
     refine AM rfl 93 _ (by go_simp) (fD.o _ (by repeat(first|exact ae _ _|apply aA))) ?_
     intro e w3 NK
     obtain⟨r3,rfl,rF,qM,iz⟩:=NK
     refine⟨_,rfl,?_⟩
     have iA:Fr aS w2 w3:=bF (by repeat(first|exact ae _ _|apply aA)) iz
     have hk:=DY.o w3 (iA.mono (fun _ _ h=>absurd h id))
     have k3:=hk.1
     have hbl:b<w3.heap.size:=cP h2.lt iA.size
     obtain⟨y,hy⟩:∃y,y=r3.cells:=⟨_,rfl⟩
     have C7:y.length=16:=by rw[hy];rfl
     have HY:=O hy
     rw[<-hy]at qM ⊢
     have Gl:=vN y #[.bool false,.string ⟨#[]⟩,.int .i64 0,.bool false,.string ⟨#[]⟩,.string ⟨#[]⟩,.int .i64 0,.string ⟨#[]⟩,.string ⟨#[]⟩,.string ⟨#[]⟩,.bool false,.string ⟨#[]⟩,.bool false,.slice none 0 0,.int .i64 0,.slice none 0 0] (by rw[C7];rfl)
     have fu:w3.ownsRow base 114 16 (.slice av fs.length cv) fs.length (rs.map aP.cells).flatten:=by
       have h:=(HO.o.fr iA (fun _ _ h=>h)).2
       rw[hkl.o]at h
       exact h
     have tu:base<=w3.heap.size:=by have:=iA.size;omega
     clear hy iz)
   |((with_reducible refine mP ⟨some 22,_,_,_,_,_⟩ ?_)
     refine step_append_lies _ bC _ _ _ bC base 114 i0 _ 16 216 underlying77 qA po k_ lp rfl ab (.slice av fs.length cv) fs.length _ bC (by repeat(first|exact fu|apply World.ownsRow.alloc|apply World.ownsRow.drew)) ⟨w3.heap.size,0,none⟩ 1 1 y bC (by rw[C7]) (kR w3 y _) qM ab fx ab bI (w3.heap.size+1) aR ?_
     intro gg cap w4 fa jC dT Lb
     have aid:Fr (own (.slice av fs.length cv)) w2 w3:=iA.mono (fun _ _ h=>absurd h id)
     have jZ:Fr (own (.slice av fs.length cv)) w2 w4:=fq (by repeat(first|exact aid|apply aA|apply bz)) jC (fun _ hk _=>hk)
     have Iz:Fr (own (.slice av fs.length cv)) w3 w4:=fq (by repeat(first|exact ae _ _|apply aA|apply bz)) jC (fun _ hk _=>hk)
     have hk:=DY.o w4 jZ
     have k4:=hk.1
     have e4:w4.frozen? ⟨b,0,none⟩=false:=(jZ.frozen (p:=⟨b,0,none⟩) h2.lt Ay).trans e0))
 all_goals
  rw[HY.o]at fa qM;obtain⟨h5,hF5,Ru⟩:=Gp h2 HO.o pV.o iA rF qM Iz fa (dT.imp id (fun h=>by have:=iA.size;omega));have d5:=h5.c0;have e5:=h5.free 0;clear fD DY fa jC jZ Iz fu aid k4 e4 hk k3 x0 x1 x2 x3 x4 x5 x6 x7 x8 x9 ZA ZB x12 x13 x14 x15 d0 e0 Gl rF qM;generalize w4.setCell ⟨b,0,none⟩ (.slice (some ⟨gg,0,none⟩) (fs.length+1) cap)=w5 at *
  have AY:(fs++[m]).length=fs.length+1:=aR;have Tw:=O AY;have ym:Fr (dw b gv wv) w w5:=jq.step hF5 (fun k hk hb=>by
   rcases La k hb with h|h
   ·exact h
   ·omega)
  have Fj:∀k,dw b (.slice (some ⟨gg,0,none⟩) (fs.length+1) cap) wv2 k->dw b gv wv k\/w.heap.size<=k:=fun k hk=>by
   rcases Ru k hk with h|h
   ·rcases La k h with h|h
    ·exact Or.inl h
    ·exact Or.inr ab
   ·exact Or.inr (by have:=jq.size;omega)
  by_cases h8:8<=fs.length
  ·have h8':(8:Int)<(fs.length:Int)+1:=ab;obtain⟨n,hn⟩:∃n:Nat,fs.length+1=n+8:=⟨fs.length+1-8,ab⟩;rw[<-AY]at h5;obtain⟨rs5,MN,Fk⟩:=h5.bH;have NN:=O (show(rs5.map aP.cells).length=fs.length+1 by rw[ai,Fk.len,AY]);have qG:=O (Gm base gg cap 0 n (rs5.map aP.cells) w5 (by rw[NN.o, <-AY];exact MN) ab (by rw[NN.o];omega));have Rv:=O hn;rw[NN.o]at qG;clear hn AY;go_wp2_with fail
   rw[show((fs.length:Int)+1-8)=(n:Int)from by have:=Rv.o;omega];refine qG.o.mono ?_;rintro e w6⟨rfl,zm,nF⟩;obtain⟨h7,Tx,d7,e7⟩:=K_ (n:=n) h5 Fk (by rw[Tw.o];exact zm) nF;rw[Tw.o,bw]at h7 Tx;rw[Tw.o]at d7;have H7:=O h7;have Jt:=O Tx;clear h7 Tx qG zm Fk MN;go_wp2_with fail
   go_end0;refine⟨rfl,_,_,by rw[DH.o,show fs.length+1-8=n from by have:=Rv.o;omega];exact H7.o,ym.step Jt.o (fun k hk hb=>by
    rcases Fj k hb with h|h
    ·exact h
    ·omega),fun k hk=>Fj k ?_⟩
   rcases hk with h|h|h
   ·exact Or.inl h
   ·exact Or.inr (Or.inl h)
   ·exact Or.inr (Or.inr h)
  ·have h8':¬(8:Int)<(fs.length:Int)+1:=ab;go_wp2_with fail
   go_end0;exact⟨rfl,_,_,by rw[DH.o,show fs.length+1-8=0 from ab,eG];exact h5,ym,Fj⟩
