/- Bank5, FindLaw, BestLaw, Few, CorsPure. -/
import Derived.Test.YtjdmjbdkdmbaiaaGreatDoorPk19
import Derived.Test.YtjdmjbdkdmbaiaaGreatDoorPk13
set_option maxRecDepth 100000
set_option maxHeartbeats 16000000
set_option linter.unusedSimpArgs false
namespace Go.Proofs.YtjdmjbdkdmbaiaaGreatDoor
open Go.RowKit
theorem OwnRows.kind{b k:Nat}{e:TypeId}{w:World}{v:Value}{xs:List (List Value)}(h:OwnRows b e k w v xs){g:Nat}(hg:own v g):∃c,w.heap[g]?=some (.cells c e (0,0)):=by
 obtain⟨cap,cur,_,_,h2,_⟩:=h.open hg;exact⟨cur,h2⟩
def aY(b:Nat)(gv wv:Value):Nat->Prop:=fun k=>k=b\/own gv k\/own wv k
section
variable {base : Nat} {w w' : World} {b : Nat} {gv wv : Value} {gs : List (ai aF)} {ws : List (aG aF)}
theorem ba.nK(h:ba base w b gv wv gs ws){k:Nat}(hk:own gv k):∃c,w.heap[k]?=some (.cells c 49 (0,0)):=by
 obtain⟨rs,h1,_⟩:=h.aH;exact h1.kind hk
theorem ba.p_(h:ba base w b gv wv gs ws){k:Nat}(hk:own wv k):∃c,w.heap[k]?=some (.cells c 144 (0,0)):=by
 obtain⟨rs,h1,_⟩:=h.waits;exact h1.kind hk
theorem ba.gw(h:ba base w b gv wv gs ws){k:Nat}(hk:own gv k):¬own wv k:=by
 intro h2;obtain⟨c,e1⟩:=h.nK hk;obtain⟨d,e2⟩:=h.p_ h2;rw[e1]at e2;cases e2
theorem ba.gb(h:ba base w b gv wv gs ws):¬own gv b:=by
 intro h2;obtain⟨c,e1⟩:=h.nK h2;have e2:=h.cR;rw[e1]at e2;cases e2
theorem ba.wb(h:ba base w b gv wv gs ws):¬own wv b:=by
 intro h2;obtain⟨c,e1⟩:=h.p_ h2;have e2:=h.cR;rw[e1]at e2;cases e2
theorem ba.agB(h:ba base w b gv wv gs ws){k:Nat}(hk:own gv k):base<=k:=by
 obtain⟨rs,h1,_⟩:=h.aH;exact h1.block k hk
theorem ba.agC(h:ba base w b gv wv gs ws){k:Nat}(hk:own wv k):base<=k:=by
 obtain⟨rs,h1,_⟩:=h.waits;exact h1.block k hk
theorem ba.off(h:ba base w b gv wv gs ws):lT base w (aY b gv wv):=by
 intro k hk _;rcases hk with rfl|hk|hk
 ·exact⟨h.low,fun c f e=>by rw[h.cR]at e;cases e⟩
 ·obtain⟨c,e1⟩:=h.nK hk;exact⟨h.agB hk,fun c f e=>by rw[e1]at e;cases e⟩
 ·obtain⟨c,e1⟩:=h.p_ hk;exact⟨h.agC hk,fun c f e=>by rw[e1]at e;cases e⟩
end
def fj(base:Nat)(w:World)(b:Nat)(gv wv:Value)(gs:List (ai aF))(ws:List (aG aF))(w':World):Prop :=
 ∃gv' wv',ba base w' b gv' wv' gs ws/\Fr (aY b gv wv) w w'/\∀k,aY b gv' wv' k->aY b gv wv k\/w.heap.size<=k
def yt(go:cO)(gx:Bool)(gr:ByteArray)(o:cO)(proxy:Bool)(ar:ByteArray):Bool:=go.eN o&&(gx==proxy&&gr.toList==ar.toList)
def iv(o:cO)(proxy:Bool)(ar:ByteArray)(g:ai aF):Bool:=yt g.o g.proxy g.a.ar o proxy ar
def Ei(o:cO)(proxy:Bool)(ar:ByteArray)(x:List Value):Bool:=yt (afv x) (cB x 3) (cS x 7) o proxy ar
theorem Ej(g:ai Value)(o:cO)(proxy:Bool)(ar:ByteArray)(w:World) :
  Calls Tryz.prog 175 #[.agg g.cells.toArray,.agg o.cells.toArray,.bool proxy,.string ar] w fun e w'=>e=.returned (.bool (yt g.o g.proxy g.a.ar o proxy ar))/\Fr ay w w':=by
 have heq:=ey g.o o;unfold ai.cells cO.cells;cases e1:g.o.eN o
 ·have HR:=O (show yt g.o g.proxy g.a.ar o proxy ar=false by unfold yt;rw[e1];rfl);go_enter Tryz.func175,Tryz.ntmps175;go_wp2;go_ret;exact⟨by rw[HR.out];rfl,((Fr.refl _ _).alloc _).alloc _⟩
 ·have HR:=O (show yt g.o g.proxy g.a.ar o proxy ar=(g.proxy==proxy&&g.a.ar.toList==ar.toList)by unfold yt;rw[e1];rfl);cases e2:g.proxy==proxy
  ·go_enter Tryz.func175,Tryz.ntmps175;go_wp2;go_ret;exact⟨by rw[HR.out,e2];rfl,((Fr.refl _ _).alloc _).alloc _⟩
  ·go_enter Tryz.func175,Tryz.ntmps175;go_wp2;go_ret;exact⟨by rw[HR.out,e2];rfl,((Fr.refl _ _).alloc _).alloc _⟩
theorem Ln(g:ai Value)(bG:∀u∈g.cells,u.oneCell'=true)(o:cO)(proxy:Bool)(ar:ByteArray)(bo bp br:Nat)(w:World)(ho:w.heap[bo]?=some (.cells #[.bool o.ae,.string o.host,.int .i64 o.port] 24 (0,0)))
  (hp:w.heap[bp]?=some (.cells #[.bool proxy] 4 (0,0)))(hr:w.heap[br]?=some (.cells #[.string ar] 9 (0,0))) :
  Calls Tryz.prog 174 #[.agg g.cells.toArray,.pointer (some ⟨bo,0,none⟩),.pointer (some ⟨bp,0,none⟩),.pointer (some ⟨br,0,none⟩)] w fun e w'=>e=.returned (.bool (Ei o proxy ar g.cells))/\Fr ay w w':=by
 obtain⟨x,hx⟩:∃x,x=g.cells:=⟨_,rfl⟩;have gD:x.length=16:=by rw[hx];rfl
 have HX:=O hx;have AD:=O (B8 gD);have fR:=fun W=>run_storeCells_new (P:=Tryz.prog) W 49 #[.bool false,.string ⟨#[]⟩,.int .i64 0,.bool false,.string ⟨#[]⟩,.string ⟨#[]⟩,.int .i64 0,.string ⟨#[]⟩,.string ⟨#[]⟩,.string ⟨#[]⟩,.bool false,.string ⟨#[]⟩,.bool false,.slice none 0 0,.int .i64 0,.slice none 0 0] x (by rw[gD];rfl) (by rw[hx];exact bG)
 have dF:Fr ay w (w.alloc (.cells x.toArray 49)):=(Fr.refl ay w).alloc _;have lr:=O (dF.keep ho (fun h=>h));have vR:=dF.keep hp (fun h=>h);have kR:=dF.keep hr (fun h=>h);have cp:(w.alloc (.cells x.toArray 49)).cell? ⟨bp,0,none⟩=some (.bool proxy):=by simp only[World.cell?,vR];rfl
 have cr:(w.alloc (.cells x.toArray 49)).cell? ⟨br,0,none⟩=some (.string ar):=by simp only[World.cell?,kR];rfl
 have cF:=O (Ej g o proxy ar (w.alloc (.cells x.toArray 49)));rw[<-hx];rw[<-hx]at cF;clear hx ho hp hr vR kR;go_enter Tryz.func174,Tryz.ntmps174
 go_wp2_with (first|((with_reducible refine ag ⟨some 6,_,_,_,_,_⟩ ?_);go_must(refine wpList_load_row rfl 49 (.tmp 4) rfl w.heap.size rfl _ x.toArray (0,0) _ (af w _) Tryz.underlying49 rfl (by rw[List.size_toArray];exact AD.out) ?_))|((with_reducible refine ag ⟨some 7,_,_,_,_,_⟩ ?_);go_must(refine wpList_load_row rfl 24 (.tmp 1) rfl bo rfl _ _ (0,0) _ lr.out Tryz.underlying24 rfl (by kernel_rfl) ?_))|fail)
 refine cF.out.mono ?_;rintro e w2⟨rfl,bq⟩;go_wp2;go_ret;rw[HX.out];exact⟨rfl,dF.trans bq⟩
theorem zB(S:Nat->Prop)(w:World)(o:cO)(proxy:Bool)(ar:ByteArray)(bo bp br:Nat)(rs:List (ai Value))(bG:∀r∈rs,∀u∈r.cells,u.oneCell'=true)
  (ho:w.heap[bo]?=some (.cells #[.bool o.ae,.string o.host,.int .i64 o.port] 24 (0,0)))(hp:w.heap[bp]?=some (.cells #[.bool proxy] 4 (0,0)))(hr:w.heap[br]?=some (.cells #[.string ar] 9 (0,0)))
  (h1:¬S bo)(h2:¬S bp)(h3:¬S br) :
  dn S w 174 #[.pointer (some ⟨bo,0,none⟩),.pointer (some ⟨bp,0,none⟩),.pointer (some ⟨br,0,none⟩)] (Ei o proxy ar) (rs.map ai.cells):=by
 intro x hx u hu;obtain⟨r,hr0,rfl⟩:=List.mem_map.1 hx;exact Ln r (bG r hr0) o proxy ar bo bp br u (hu.keep ho h1) (hu.keep hp h2) (hu.keep hr h3)
theorem ba.OJ{base:Nat}{w:World}{b:Nat}{gv0 gv wv:Value}{gs:List (ai aF)}{ws:List (aG aF)}(hl:base<=b)(hb:w.heap[b]?=some (.cells #[gv0,wv] 139 (0,0)))(hg:dx base w gv gs)(hw:fq base w wv ws) :
  ba base (w.setCell ⟨b,0,none⟩ gv) b gv wv gs ws:=by
 have lZ:lT base w (one b):=by
  rintro k rfl _;exact⟨hl,fun c f e=>by rw[hb]at e;cases e⟩
 have fM:Fr (one b) w (w.setCell ⟨b,0,none⟩ gv):=(Fr.refl (one b) w).setCell (p:=⟨b,0,none⟩) (fun _=>rfl) _;refine⟨hl,aP hb 0 gv,hg.fr fM lZ ?_,hw.fr fM lZ ?_⟩
 ·rintro k hk rfl;obtain⟨rs,h1,_⟩:=hg;obtain⟨c,e⟩:=h1.kind hk;rw[hb]at e;cases e
 ·rintro k hk rfl;obtain⟨rs,h1,_⟩:=hw;obtain⟨c,e⟩:=h1.kind hk;rw[hb]at e;cases e
theorem ba.ZS{base:Nat}{w:World}{b:Nat}{wv0 gv wv:Value}{gs:List (ai aF)}{ws:List (aG aF)}(hl:base<=b)(hb:w.heap[b]?=some (.cells #[gv,wv0] 139 (0,0)))(hg:dx base w gv gs)(hw:fq base w wv ws) :
  ba base (w.setCell ⟨b,1,none⟩ wv) b gv wv gs ws:=by
 have lZ:lT base w (one b):=by
  rintro k rfl _;exact⟨hl,fun c f e=>by rw[hb]at e;cases e⟩
 have fM:Fr (one b) w (w.setCell ⟨b,1,none⟩ wv):=(Fr.refl (one b) w).setCell (p:=⟨b,1,none⟩) (fun _=>rfl) _;refine⟨hl,aP hb 1 wv,hg.fr fM lZ ?_,hw.fr fM lZ ?_⟩
 ·rintro k hk rfl;obtain⟨rs,h1,_⟩:=hg;obtain⟨c,e⟩:=h1.kind hk;rw[hb]at e;cases e
 ·rintro k hk rfl;obtain⟨rs,h1,_⟩:=hw;obtain⟨c,e⟩:=h1.kind hk;rw[hb]at e;cases e
theorem dx.tW{base:Nat}{w:World}{v:Value}{rs:List (ai Value)}{gs:List (ai aF)}{p:List Value->Bool}{q:ai aF->Bool}(h1:OwnRows base 49 16 w v ((rs.map ai.cells).filter (fun x=>!p x)))(h2:fF (ai.Reads (aS base w)) rs gs)
  (WH:∀r g,ai.Reads (aS base w) r g->p r.cells=q g):dx base w v (gs.filter (fun g=>!q g))/\((rs.map ai.cells).filter (fun x=>!p x)).length=(gs.filter (fun g=>!q g)).length:=by
 have hb:fF (ai.Reads (aS base w)) (rs.filter (fun r=>!p r.cells)) (gs.filter (fun g=>!q g)):=h2.filter (fun r g h=>by rw[WH r g h]);have he:(rs.map ai.cells).filter (fun x=>!p x)=(rs.filter (fun r=>!p r.cells)).map ai.cells:=by rw[List.filter_map];rfl
 refine⟨⟨_,by rw[he]at h1;exact h1,hb⟩,?_⟩;rw[he,List.length_map,hb.len]
theorem wh{base:Nat}{w:World}{r:ai Value}{g:ai aF}(h:ai.Reads (aS base w) r g)(o:cO)(proxy:Bool)(ar:ByteArray):Ei o proxy ar r.cells=iv o proxy ar g:=by
 obtain⟨h1,h2,_,_,⟨_,h3,_⟩,_⟩:=h;unfold iv;rw[<-h1, <-h2, <-h3];rfl
def qe(base:Nat)(w:World)(b:Nat)(gv wv:Value)(gs:List (ai aF))(ws:List (aG aF))(q:ai aF->Bool)(e:Ending)(w':World):Prop :=
 e=.returned (.bool (decide ((gs.filter (fun g=>!q g)).length<gs.length)))/\fj base w b gv wv (gs.filter (fun g=>!q g)) ws w'
theorem tX(base:Nat)(w:World)(b:Nat)(gv wv:Value)(gs:List (ai aF))(ws:List (aG aF))(o:cO)(proxy:Bool)(ar:ByteArray)(h:ba base w b gv wv gs ws) :
  Calls Tryz.prog 111 #[.pointer (some ⟨b,0,none⟩),.agg o.cells.toArray,.bool proxy,.string ar] w (qe base w b gv wv gs ws (iv o proxy ar)):=by
 unfold cO.cells;obtain⟨av,cv,hv⟩:=h.aH.form;subst hv;have pD:=h.lt;have kM:=h.low;have iJ:Fr ay w _:=(((Fr.refl ay w).alloc (.cells #[.bool o.ae,.string o.host,.int .i64 o.port] 24)).alloc (.cells #[.bool proxy] 4)).alloc (.cells #[.string ar] 9)
 have b0:(((w.alloc (.cells #[.bool o.ae,.string o.host,.int .i64 o.port] 24)).alloc (.cells #[.bool proxy] 4)).alloc (.cells #[.string ar] 9)).heap[w.heap.size]?=some (.cells #[.bool o.ae,.string o.host,.int .i64 o.port] 24 (0,0)):=by
  rw[Below.heap_alloc _ _ _ (by simp;omega),Below.heap_alloc _ _ _ (by simp)];exact af _ _
 have b1:(((w.alloc (.cells #[.bool o.ae,.string o.host,.int .i64 o.port] 24)).alloc (.cells #[.bool proxy] 4)).alloc (.cells #[.string ar] 9)).heap[w.heap.size+1]?=some (.cells #[.bool proxy] 4 (0,0)):=by
  rw[Below.heap_alloc _ _ _ (by simp)];have h:=af (w.alloc (.cells #[.bool o.ae,.string o.host,.int .i64 o.port] 24)) (.cells #[.bool proxy] 4);simpa using h
 have b2:(((w.alloc (.cells #[.bool o.ae,.string o.host,.int .i64 o.port] 24)).alloc (.cells #[.bool proxy] 4)).alloc (.cells #[.string ar] 9)).heap[w.heap.size+2]?=some (.cells #[.string ar] 9 (0,0)):=by
  have h:=af ((w.alloc (.cells #[.bool o.ae,.string o.host,.int .i64 o.port] 24)).alloc (.cells #[.bool proxy] 4)) (.cells #[.string ar] 9);simpa using h
 have h1:=h.bd iJ;have h0:=h1.c0;have B0:=O b0;have B1:=O b1;have B2:=O b2;clear b0 b1 b2;go_enter Tryz.func111,Tryz.ntmps111;go_wp2_with fail
 clear h0;generalize ((w.alloc (.cells _ 24)).alloc _).alloc _=W at *
 obtain⟨rs,uT,lr⟩:=h1.aH;have bG:∀r∈rs,∀u∈r.cells,u.oneCell'=true:=fun r hr=>(uT.1 r.cells (List.mem_map.2 ⟨r,hr,rfl⟩)).2;have hW:w.heap.size<=W.heap.size:=iJ.size;have SY:∀k,own (.slice av gs.length cv) k->k<w.heap.size:=fun k hk=>by
  obtain⟨c,e⟩:=h.nK hk;exact aj e
 have hd:=O (rz base 174 #[.pointer (some ⟨w.heap.size,0,none⟩),.pointer (some ⟨w.heap.size+1,0,none⟩),.pointer (some ⟨w.heap.size+1+1,0,none⟩)] (Ei o proxy ar) _ _ W Tryz.call174
  (zB _ W o proxy ar w.heap.size (w.heap.size+1) (w.heap.size+1+1) rs bG B0.out B1.out B2.out (fun hk=>by have:=SY _ hk;omega) (fun hk=>by have:=SY _ hk;omega) (fun hk=>by have:=SY _ hk;omega)) uT)
 refine hd.out.mono ?_;rintro e w2⟨a2,c2,rfl,rR,bq,bV⟩;have OK:=lr.mono (fun _ _ h=>h.mono (fun _ _ h=>h.fr bq (fun k hk hl=>h1.off k (Or.inr (Or.inl hk)) hl)));obtain⟨SS,M1⟩:=dx.tW rR OK (fun r g h=>wh h o proxy ar);rw[M1]at SS bV ⊢;have fC:=bq.keep h1.cR h1.gb;have bK:=h1.waits.fr bq (fun k hk hl=>h1.off k (Or.inr (Or.inl hk)) hl) (fun k hk hg=>h1.gw hg hk);have ln:=O (ba.OJ kM fC SS bK)
 have c0:w2.cell? ⟨b,0,none⟩=some (.slice av gs.length cv):=by simp[World.cell?,fC]
 have f0:w2.frozen? ⟨b,0,none⟩=false:=by simp[World.frozen?,fC]
 have Un:Fr (aY b (.slice av gs.length cv) wv) w w2:=Fr.step (iJ.mono (fun _ _ h=>absurd h (fun h=>h))) bq (fun k _ hk=>Or.inr (Or.inl hk));have HB:=Un.setCell (p:=⟨b,0,none⟩) (fun _=>Or.inl rfl) (.slice a2 (gs.filter (fun g=>!iv o proxy ar g)).length c2);have ia:∀k,aY b (.slice a2 (gs.filter (fun g=>!iv o proxy ar g)).length c2) wv k->aY b (.slice av gs.length cv) wv k\/w.heap.size<=k:=by
  intro k hk;unfold aY at hk;rw[bV]at hk;exact Or.inl hk
 clear hd uT lr OK rR fC bK SS h1 bG SY M1 Un;obtain⟨fs,fM⟩:∃fs,fs=gs.filter (fun g=>!iv o proxy ar g):=⟨_,rfl⟩;rw[<-fM]at ln bV HB ia ⊢;have WZ:=O fM;clear fM;go_wp2_with fail
 go_ret;unfold qe;rw[<-WZ.out];exact⟨cJ (by simp),_,_,ln.out,HB,ia⟩
theorem UR{α:Type}{p:List α->Prop}(h0:p [])(h1:∀l x,p l->p (l++[x]))(l:List α):p l:=by
 rw[<-List.reverse_reverse l]
 induction l.reverse with
 |nil=>exact h0
 |cons a m ih=>rw[List.reverse_cons];exact h1 _ _ ih
theorem yF{α:Type}(f:α->Int)(l:List α):(iR f l 0 (-1, -1)=(-1, -1)/\∀x∈l,f x<0)\/∃(k:Nat) (x:α),l[k]?=some x/\iR f l 0 (-1, -1)=(f x,(k:Int))/\0<=f x/\∀y∈l,f y<=f x:=by
 induction l using UR with
 |h0=>exact Or.inl ⟨rfl,by simp⟩
 |h1 l x ih =>
  rw[sq,Nat.zero_add];rcases ih with ⟨e,h⟩|⟨k,z,hz,e,h0,h⟩
  ·rw[e];by_cases hx:0<=f x
   ·rw[if_pos ⟨hx,by show(-1:Int)<=f x;omega⟩];refine Or.inr ⟨l.length,x,by simp,rfl,hx,fun y hy=>?_⟩;rcases List.mem_append.1 hy with hy|hy
    ·have:=h y hy;omega
    ·simp at hy;subst hy;omega
   ·rw[if_neg (fun h=>hx h.1)];refine Or.inl ⟨rfl,fun y hy=>?_⟩;rcases List.mem_append.1 hy with hy|hy
    ·exact h y hy
    ·simp at hy;subst hy;omega
  ·rw[e];have hk:=(List.getElem?_eq_some_iff.1 hz).1;by_cases hx:0<=f x/\f z<=f x
   ·rw[if_pos hx];refine Or.inr ⟨l.length,x,by simp,rfl,hx.1,fun y hy=>?_⟩;rcases List.mem_append.1 hy with hy|hy
    ·have:=h y hy;omega
    ·simp at hy;subst hy;omega
   ·rw[if_neg hx];refine Or.inr ⟨k,z,by rw[List.getElem?_append_left hk];exact hz,rfl,h0,fun y hy=>?_⟩;rcases List.mem_append.1 hy with hy|hy
    ·exact h y hy
    ·simp at hy;subst hy;omega
theorem LA(a:cQ aF)(x:iI):a.scheme<=(kq a x).scheme:=by
 unfold kq;split
 ·exact Int.le_refl _
 ·split
  ·omega
  ·exact Int.le_refl _
theorem UT:∀(l:List iI) (a:cQ aF),a.scheme<=(l.foldl kq a).scheme
 |[],_=>Int.le_refl _
 |x :: l,a=>Int.le_trans (LA a x) (UT l (kq a x))
theorem JO:∀(l:List iI) (a:cQ aF),l.foldl kq a=a\/∃x∈l,iz x=some (l.foldl kq a)
 |[],_=>Or.inl rfl
 |x :: l,a=>by
  rw[List.foldl_cons];rcases JO l (kq a x)with h|⟨y,hy,h⟩
  ·rw[h];unfold kq;split
   ·exact Or.inl rfl
   ·rename_i b hb;split
    ·exact Or.inr ⟨x,List.mem_cons_self .., hb⟩
    ·exact Or.inl rfl
  ·exact Or.inr ⟨y,List.mem_cons_of_mem _ hy,h⟩
def Mr(p:dW):Bool:=decide ((300:Int)<(p.1.size:Int)+(p.2.size:Int))
def Fx(ps:List dW):Bool:=decide (ps.length<=40)&&!(ps.any Mr)
def J4:List Value->dW
 |[.string a,.string b]=>(a,b)
 |_=>(ByteArray.empty,ByteArray.empty)
theorem VI(v:Value)(ps:List dW)(w:World)(hv:kU w v ps)(hl:ps.length<=140737488355328)(hz:∀p∈ps,p.1.size<=140737488351232/\p.2.size<=140737488351232) :
  Calls Tryz.prog 105 #[v] w fun e w'=>e=.returned (.bool (Fx ps))/\Fr ay w w':=by
 obtain⟨av,cv,cA⟩:=hv.form;rw[List.length_map]at cA;subst cA;have hcf:=O (wV _ #[] (fun x=>Mr (J4 x)) _ _ w Tryz.call169 (fun x hx u _=>by
  obtain⟨p,hp,rfl⟩:=List.mem_map.1 hx;exact Qp p.1 p.2 u (hz p hp).1 (hz p hp).2) hv)
 have dL:=O (show(ps.map dW.cells).any (fun x=>Mr (J4 x))=ps.any Mr by rw[List.any_map];rfl);by_cases Bv:ps.length<=40
 ·have hb:=O (show Fx ps=!(ps.any Mr)by unfold Fx;rw[decide_eq_true Bv];rfl);have i40:(ps.length:Int)<=40:=by omega
  have d40:decide ((ps.length:Int)<=40)=true:=decide_eq_true i40;go_enter Tryz.func105,Tryz.ntmps105;go_wp2_with fail
  refine hcf.out.mono ?_;rw[dL.out];rintro e u⟨rfl,hf⟩;go_wp2;go_ret;exact⟨cJ hb.out.symm,hf⟩
 ·have hb:=O (show Fx ps=false by unfold Fx;rw[decide_eq_false Bv];rfl);have i40:¬(ps.length:Int)<=40:=by omega
  have d40:decide ((ps.length:Int)<=40)=false:=decide_eq_false i40;go_enter Tryz.func105,Tryz.ntmps105;go_wp2;go_ret;exact⟨cJ hb.out.symm,Fr.refl _ _⟩
def nC(l:Bs):Bs:=if l.getLast?=some 13 then l.dropLast else l
def trimB(l:Bs):Bs:=Lib.trimS l [32,9]
def xE(l:Bs):Option (Option ew) :=
 if(nC l).isEmpty then some none
 else if !(hQ 58 (nC l)).2.2||!uN (hQ 58 (nC l)).1 then none
 else some (some ((hQ 58 (nC l)).1,trimB (hQ 58 (nC l)).2.1))
def fE:List Bs->List ew->Except Nat (List ew)
 |[],acc=>.ok acc
 |l :: ls,acc =>
  match xE l with
  |none=>.error 3
  |some none=>fE ls acc
  |some (some p)=>if acc.length=40 then .error 4 else fE ls (acc++[p])
def ik(s:Bs):Except Nat (List ew):=if 3000<s.length then .error 4 else fE (bD 10 s) []
def rS(ps:List ew)(n:Bs):List Bs:=(ps.filter fun p=>bf p.1 n).map (·.2)
def fQ(ps:List ew)(n:Bs):Bs:=Lib.join (rS ps n) [44,32]
def kV(ps:List ew)(n:Bs):Bool:=!(rS ps n).isEmpty
theorem TM(x y:Bs)(l:List Bs)(sep:Bs):Lib.join (x :: y :: l) sep=x++(sep++Lib.join (y :: l) sep):=by
 simp[Lib.join,List.intercalate]
def lz:Bs:=[65,99,99,101,115,115,45,67,111,110,116,114,111,108,45,65,108,108,111,119,45,79,114,105,103,105,110]
def DH:Bs:=[65,99,99,101,115,115,45,67,111,110,116,114,111,108,45,65,108,108,111,119,45,67,114,101,100,101,110,116,105,97,108,115]
def DI:Bs:=[65,99,99,101,115,115,45,67,111,110,116,114,111,108,45,65,108,108,111,119,45,77,101,116,104,111,100,115]
def rT:Bs:=[65,99,99,101,115,115,45,67,111,110,116,114,111,108,45,65,108,108,111,119,45,72,101,97,100,101,114,115]
def BJ:Bs:=[65,99,99,101,115,115,45,67,111,110,116,114,111,108,45,77,97,120,45,65,103,101]
def Gc(t:Bs)(bP:Bool)(ps:List ew):Bool :=
 if !kV ps lz then false
 else if(fQ ps lz== [42])&&!bP then true
 else if fQ ps lz !=t then false
 else !bP||(fQ ps DH==gz)
def iB(ps:List ew):Int:=if kV ps BJ then(if jL (fQ ps BJ)then min (th (fQ ps BJ)) 600 else 5)else 5
theorem Gd(ps:List ew):0<=iB ps/\iB ps<=600/\(kV ps BJ=true\/iB ps=5):=by
 unfold iB;split
 ·rename_i h;split
  ·rename_i hd;unfold jL at hd;simp only[Bool.and_eq_true]at hd;have:=rN (fQ ps BJ) 0 hd.2 (by decide) (by decide);unfold th;exact⟨by omega,by omega,Or.inl h⟩
  ·exact⟨by decide,by decide,Or.inl h⟩
 ·exact⟨by decide,by decide,Or.inr rfl⟩
def fL(ps:List ew)(n:Bs):Option (List Bs) :=
 match dz (fQ ps n)with
 | .error _=>none
 | .ok l=>if 40<l.length then none else some l
def kJ(ps:List bI)(p:bI):List bI:=if ps.any (fun q=>q.eN p)then ps else ps++[p]
def lu.xF(r:lu)(kB:Int)(m h:ByteArray):bI:=⟨r.aI,r.o,r.path,r.query,r.bP,m,h,kB⟩
def lu.methods(r:lu)(ms:List Bs):List ByteArray:=if ms.isEmpty then [eD r.method]else ms.map bA
def lu.aH(r:lu)(kB:Int)(ms hs:List Bs):List bI :=
 (hs.map fun h=>r.xF kB (bA []) (bA (iK h))).foldl kJ ((r.methods ms |>.map fun m=>r.xF kB m (bA [])).foldl kJ [])
def oc(r:lu)(t:Bs)(ps:List ew)(now:Int):Except Nat (List bI) :=
 match fL ps DI,fL ps rT with
 |some ms,some hs =>
  if !Gc t r.bP ps then .error 6
  else if !r.iA (r.aH (now+iB ps) ms hs)then .error 6
  else .ok (r.aH (now+iB ps) ms hs)
 |_,_=>.error 3
end Go.Proofs.YtjdmjbdkdmbaiaaGreatDoor
