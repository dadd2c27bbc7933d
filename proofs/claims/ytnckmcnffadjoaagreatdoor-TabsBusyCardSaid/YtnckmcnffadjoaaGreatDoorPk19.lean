/- Lemmas for the law's walk. -/
import Derived.Test.YtnckmcnffadjoaaGreatDoorPk18
set_option maxRecDepth 100000
set_option maxHeartbeats 16000000
set_option linter.unusedSimpArgs false
namespace Go.Proofs.YtnckmcnffadjoaaGreatDoor
open Go.Proofs.Tryz
open Go.RowKit
variable {w:World} {b g:Nat} {v:Value}
def uo(base:Nat)(w:World)(b:Nat)(v:Value)(ps:List ef)(f:ef->Bool)(e:Ending)(w':World):Prop :=
 e=.returned (.int .i64 ((ps.length:Int)-((ps.filter (fun p=>!f p)).length:Int)))/\Eo base w b v (ps.filter (fun p=>!f p)) w'
theorem G8{base:Nat}{w1 w2:World}{ps ys:List ef}{a:Option Addr}{c:Nat}(h:eO base w1 b v ps)(df:Fr aR w w1)(dy:Fr (own v) w1 w2)(JU:own (.slice a ys.length c)=own v)(ho:OwnRows base 155 12 w2 (.slice a ys.length c) (ys.map ef.cells)) :
  eO base (w2.setCell ⟨b,0,none⟩ (.slice a ys.length c)) b (.slice a ys.length c) ys/\Fr (iA b v) w (w2.setCell ⟨b,0,none⟩ (.slice a ys.length c))/\(∀k,iA b (.slice a ys.length c) k->iA b v k\/w.heap.size<=k)/\w2.cell? ⟨b,0,none⟩=some v/\w2.frozen? ⟨b,0,none⟩=false:=by
 have LD:=dy.keep h.eI h.nb;refine⟨oX h.low LD ho,?_,?_,by simp[World.cell?,LD],by simp[World.frozen?,LD]⟩
 ·exact(fX (S:=iA b v) (df.mono (fun _ _ h=>absurd h id)) dy (fun _ _ h=>Or.inr h)).setCell (p:=⟨b,0,none⟩) (fun _=>Or.inl rfl) _
 ·rintro k(hk|hk)
  ·exact Or.inl (Or.inl hk)
  ·exact Or.inl (Or.inr (by rw[<-JU];exact hk))
theorem LQ(base:Nat)(w:World)(b:Nat)(v:Value)(ps:List ef)(r:gq Value)(hs:List gZ)(h:eO base w b v ps)(hlen:ps.length<1000000) :
  Calls prog 66 #[.pointer (some ⟨b,0,none⟩),.agg r.cells.toArray] w (uo base w b v ps (ef.vu (r.dS hs))):=by
 obtain⟨rc,uS⟩:∃rc,rc=r.cells.toArray:=⟨_,rfl⟩;have df:Fr aR w (w.alloc (.cells rc 37)):=(ae _ _).alloc _;have mf:(w.alloc (.cells rc 37)).heap[w.heap.size]?=some (.cells rc 37 (0,0)):=aB _ _;have h1:=h.dh df;obtain⟨ak,ck,TQ⟩:=h.form;subst TQ;have RI:¬own (.slice ak ps.length ck) w.heap.size:=fun hk=>by have:=h.Ep hk;omega
 have hd:=p9 base 136 #[.pointer (some ⟨w.heap.size,0,none⟩)] (fun y=>(IZ y).vu (r.dS hs)) (.slice ak ps.length ck) (ps.map ef.cells) _ call136 (fun y hy u hu=>by
  obtain⟨q,_,rfl⟩:=bV.1 hy;exact LF q r hs w.heap.size u (by rw[<-uS];exact hu.keep mf RI)) h1.rows
 rw[rk ps (ef.vu (r.dS hs)),ai]at hd;obtain⟨ys,KI⟩:∃ys,ys=ps.filter (fun p=>!p.vu (r.dS hs)):=⟨_,rfl⟩;have hyl:ys.length<=ps.length:=by rw[KI];exact bQ _ _
 unfold uo;rw[<-KI]at hd ⊢;have HD:=O hd;have H1:=O h1;have k_:=O df;have c0:=h1.c0;have e0:=h1.free 0;rw[<-uS];clear hd KI h1 h df mf uS RI;go_enter func66,ntmps66;go_wp2_with fail
 refine HD.o.mono ?_;rintro e w2⟨a2,c2,rfl,q_,dy,JU⟩;obtain⟨g1,g2,g3,d0,e2⟩:=G8 H1.o k_.o dy JU q_;have d3:=g1.c0;have G:=O (And.intro g1 (And.intro g2 g3));clear g1 g2 g3 q_ dy JU HD H1 k_ c0 e0;go_wp2;go_ret;exact⟨rfl,_,G.o.1,G.o.2.1,G.o.2.2⟩
theorem Oh(base:Nat)(w:World)(b:Nat)(v:Value)(ps:List ef)(o:gz)(h:eO base w b v ps)(hlen:ps.length<1000000) :
  Calls prog 71 #[.pointer (some ⟨b,0,none⟩),.agg o.cells.toArray] w (uo base w b v ps (ef.wT o)):=by
 unfold gz.cells;have df:Fr aR w (w.alloc (.cells #[.bool o.aF,.string o.host,.int .i64 o.port] 32)):=(ae _ _).alloc _;have mf:(w.alloc (.cells #[.bool o.aF,.string o.host,.int .i64 o.port] 32)).heap[w.heap.size]?=some (.cells #[.bool o.aF,.string o.host,.int .i64 o.port] 32 (0,0)):=aB _ _;have h1:=h.dh df;obtain⟨ak,ck,TQ⟩:=h.form;subst TQ
 have RI:¬own (.slice ak ps.length ck) w.heap.size:=fun hk=>by have:=h.Ep hk;omega
 have hd:=p9 base 146 #[.pointer (some ⟨w.heap.size,0,none⟩)] (fun y=>(IZ y).wT o) (.slice ak ps.length ck) (ps.map ef.cells) _ call146 (fun y hy u hu=>by
  obtain⟨q,_,rfl⟩:=bV.1 hy;exact LG q o w.heap.size u (hu.keep mf RI)) h1.rows
 rw[rk ps (ef.wT o),ai]at hd;obtain⟨ys,KI⟩:∃ys,ys=ps.filter (fun p=>!p.wT o):=⟨_,rfl⟩;have hyl:ys.length<=ps.length:=by rw[KI];exact bQ _ _
 unfold uo;rw[<-KI]at hd ⊢;have HD:=O hd;have H1:=O h1;have k_:=O df;have c0:=h1.c0;have e0:=h1.free 0;clear hd KI h1 h df mf RI;go_enter func71,ntmps71;go_wp2_with fail
 refine HD.o.mono ?_;rintro e w2⟨a2,c2,rfl,q_,dy,JU⟩;obtain⟨g1,g2,g3,d0,e2⟩:=G8 H1.o k_.o dy JU q_;have d3:=g1.c0;have G:=O (And.intro g1 (And.intro g2 g3));clear g1 g2 g3 q_ dy JU HD H1 k_ c0 e0;go_wp2;go_ret;exact⟨rfl,_,G.o.1,G.o.2.1,G.o.2.2⟩
theorem V5(a d g:Bool)(b e p q m h:aj)(c f t:Int):prog.built 155 [(0,.agg #[.bool a,.string b,.int .i64 c]),(1,.agg #[.bool d,.string e,.int .i64 f,.string p,.string q]),(2,.bool g),(3,.string m),(4,.string h),(5,.int .i64 t)]=some #[.bool a,.string b,.int .i64 c,.bool d,.string e,.int .i64 f,.string p,.string q,.bool g,.string m,.string h,.int .i64 t]:=af
theorem On:(prog.info? 155).map (fun i=>(i.zero,i.size,i.bytes))=some (some (.agg FJ),12,144):=af
theorem OwnRows.V6{k:Nat}{e:TypeId}{xs:List (List Value)}(h:OwnRows b e k w v xs)(hg:own v g):∃c,w.heap[g]?=some (.cells c e (0,0)):=by
 obtain⟨cap,cur,_,_,h2,_⟩:=h.open hg;exact⟨cur,h2⟩
theorem V7(p:ef):∀u∈p.cells,u.oneCell'=true:=by unfold ef.cells;simp[Value.oneCell']
theorem LU(acc:List ef)(X:ef):acc.any (fun q=>q.ll X)=acc.any (fun q=>X.ll q):=by
 congr 1;funext q
 rw[fa,ef.xj,ef.xj];exact eq_comm
theorem I_{P:Program}{ops:Array Oper}{S:World->Prop}{o:Oper}{a:Act}(hg:o.guard=none)(t:TypeId)(parts:Array (Nat×Operand))(ho:o.op=.build t parts)(cells:Array Value)
  (hf:P.built t (parts.map fun(i,x)=>(i,a.eval x)).toList=some cells):YieldsIf P ops S o (.agg cells) a :=
 Or.inl ⟨by simp[Region.wanted,hg],fun w _=>by
  unfold execOp;simp only[ho,Sem.run_bind,run_build w t _ cells hf,Result.andThen_ok];rfl⟩
theorem vz{ops:Array Oper}{S:World->Prop}{o:Oper}{a:Act}(hg:o.guard=none)(x0 x1 x2 x3 x4 x5:Operand)
  (ho:o.op=.build 155 #[(0,x0),(1,x1),(2,x2),(3,x3),(4,x4),(5,x5)])(b1 b2 b3:Bool)(s1 s2 s3 s4 s5 s6:aj)(i1 i2 i3:Int)
  (h0:a.eval x0=.agg #[.bool b1,.string s1,.int .i64 i1])(h1:a.eval x1=.agg #[.bool b2,.string s2,.int .i64 i2,.string s3,.string s4])(h2:a.eval x2=.bool b3)(h3:a.eval x3=.string s5)(h4:a.eval x4=.string s6)(h5:a.eval x5=.int .i64 i3) :
  YieldsIf prog ops S o (.agg #[.bool b1,.string s1,.int .i64 i1,.bool b2,.string s2,.int .i64 i2,.string s3,.string s4,.bool b3,.string s5,.string s6,.int .i64 i3]) a:=by
 refine I_ hg 155 _ ho _ ?_;simp only[eC,cA,dn,h0,h1,h2,h3,h4,h5];exact V5 _ _ _ _ _ _ _ _ _ _ _ _
theorem Ez{P:Program}{ops:Array Oper}{a:Act}{w:World}{K:Act->World->Prop}{Q:Exit->Act->World->Prop}{E:Prop}{o:Oper}(zd:o.guard=none)(ty:TypeId)(x y:Operand)(ho:o.op=.store ty x y)
  (g:Nat)(cells:Array Value)(hx:a.eval x=.pointer (some ⟨g,0,none⟩))(hy:a.eval y=.agg cells)
  (t:TypeId)(old:Array Value)(hg:w.heap[g]?=some (.cells old t (0,0)))(hi:(P.info? ty).map (·.size)=some cells.size)
  (hold:old.size=cells.size)(h1:cells.all (·.oneCell')=true)
  (h:K (a.put o.dst undef) (w.setRow g cells)):if Region.wanted o (yielded ops a.tmps)=true then Oper.wp P o a w K Q else E:=by
 have hw:Region.wanted o (yielded ops a.tmps)=true:=by simp[Region.wanted,zd]
 rw[az hw];exact wp_store_row ty x y ho g cells hx hy t old hg hi hold h1 h
theorem iY{S:Nat->Prop}{a:World}(h:Fr S a w)(hg:a.heap.size<=g)(cs:Array Value):Fr S a (w.setRow g cs) :=
 ⟨h.os,h.tape,h.output,by show a.heap.size<=(w.setRow g cs).heap.size;rw[World.setRow];simp only[Array.size_modify];exact h.size,fun k hk hn=>(show(w.setRow g cs).heap[k]?=w.heap[k]? by simp[World.setRow,Array.getElem?_modify,show g≠k from ab]).trans (h.block k hk hn)⟩
theorem kS{old cs:Array Value}{t:TypeId}(h:w.heap[g]?=some (.cells old t (0,0))):(w.setRow g cs).heap[g]?=some (.cells cs t (0,0)):=by
 simp[World.setRow,Array.getElem?_modify,h]
theorem aai(base:Nat)(m hd:aj)(r:gq Value)(hs:List gZ)(now:Int)(lv:Value)(ps:List jy)(acc:List ef)(v:Value)(br bn bl bp:Nat)(w:World)
  (hr:w.heap[br]?=some (.cells r.cells.toArray 37 (0,0)))(hn:w.heap[bn]?=some (.cells #[.int .i64 now] 3 (0,0)))(hl:w.heap[bl]?=some (.cells #[lv] 35 (0,0)))(hp:w.heap[bp]?=some (.cells #[v] 90 (0,0)))
  (Ny:lQ w lv ps)(hz:lB ps)(cP:OwnRows base 155 12 w v (acc.map ef.cells))(hb:base<=bp)(hlen:acc.length<1000000)(n0:0<=now)(n1:now<=1099511627776) :
  Calls prog 132 #[.string m,.string hd,.pointer (some ⟨br,0,none⟩),.pointer (some ⟨bn,0,none⟩),.pointer (some ⟨bl,0,none⟩),.pointer (some ⟨bp,0,none⟩)] w fun e w'=>e=.returned (.tuple #[])/\∃v',w'.heap[bp]?=some (.cells #[v'] 90 (0,0))/\OwnRows base 155 12 w' v' ((qo acc ((r.dS hs).Ds (now+ni ps) m hd)).map ef.cells)/\Fr (fun k=>k=bp\/own v k) w w':=by
 have hag:=Ns ps;have aja:=O (show∀U,Fr aR w U->Calls prog 133 #[lv] U fun e w'=>e=.returned (.int .i64 (ni ps))/\Fr aR U w' from fun U hU=>aah lv ps U (bg Ny hU) hz);obtain⟨al,cl,hlv⟩:=dQ Ny;rw[ai]at hlv;subst hlv
 have HC:=O (show∀U,Fr aR w U->(U.cell? ⟨br,1,none⟩=some (.bool r.dm.aF)/\U.cell? ⟨br,2,none⟩=some (.string r.dm.host)/\U.cell? ⟨br,3,none⟩=some (.int .i64 r.dm.port)/\U.cell? ⟨br,4,none⟩=some (.bool r.o.aF)/\U.cell? ⟨br,5,none⟩=some (.string r.o.host)/\U.cell? ⟨br,6,none⟩=some (.int .i64 r.o.port)/\U.cell? ⟨br,7,none⟩=some (.string r.path)/\U.cell? ⟨br,8,none⟩=some (.string r.query)/\U.cell? ⟨br,11,none⟩=some (.bool r.fU)/\U.cell? ⟨bn,0,none⟩=some (.int .i64 now)/\U.cell? ⟨bl,0,none⟩=some (.slice al ps.length cl))from fun U hU=>by
  have j:=hU.keep hr id;have hc:∀i u,r.cells[i]?=some u->U.cell? ⟨br,i,none⟩=some u:=fun i u hu=>by simp only[World.cell?,j];simpa using hu
  exact⟨hc 1 _ rfl,hc 2 _ rfl,hc 3 _ rfl,hc 4 _ rfl,hc 5 _ rfl,hc 6 _ rfl,hc 7 _ rfl,hc 8 _ rfl,hc 11 _ rfl,by simp[World.cell?,hU.keep hn id],by simp[World.cell?,hU.keep hl id]⟩)
 obtain⟨X,hX⟩:∃X,X=(r.dS hs).Ds (now+ni ps) m hd:=⟨_,rfl⟩;obtain⟨x,hx⟩:∃x,x=X.cells:=⟨_,rfl⟩;have lF:x.length=12:=by rw[hx];rfl
 have xE:=O (show∀u∈x,u.oneCell'=true from by rw[hx];exact V7 X);have GJ:=wD x #[.bool false,.string ⟨#[]⟩,.int .i64 0,.bool false,.string ⟨#[]⟩,.int .i64 0,.string ⟨#[]⟩,.string ⟨#[]⟩,.bool false,.string ⟨#[]⟩,.string ⟨#[]⟩,.int .i64 0] (by rw[lF];rfl);have HX:=O hx
 have HXC:=O (show x.toArray= #[.bool r.dm.aF,.string r.dm.host,.int .i64 r.dm.port,.bool r.o.aF,.string r.o.host,.int .i64 r.o.port,.string r.path,.string r.query,.bool r.fU,.string m,.string hd,.int .i64 (now+ni ps)]by rw[hx,hX];rfl);rw[<-hX];clear hX hx;have ar3:IntKind.i64.wrap (now+ni ps)=now+ni ps:=by rw[IntWalk.i64_left];exact IntWalk.wrap64_in _ ab
 clear hr hn hl Ny hz;go_enter func132,ntmps132;go_wp2_with fail
 refine wp_region_held_drew (S:=(fun U=>U.cell? ⟨br,1,none⟩=some (.bool r.dm.aF)/\U.cell? ⟨br,2,none⟩=some (.string r.dm.host)/\U.cell? ⟨br,3,none⟩=some (.int .i64 r.dm.port)/\U.cell? ⟨br,4,none⟩=some (.bool r.o.aF)/\U.cell? ⟨br,5,none⟩=some (.string r.o.host)/\U.cell? ⟨br,6,none⟩=some (.int .i64 r.o.port)/\U.cell? ⟨br,7,none⟩=some (.string r.path)/\U.cell? ⟨br,8,none⟩=some (.string r.query)/\U.cell? ⟨br,11,none⟩=some (.bool r.fU)/\U.cell? ⟨bn,0,none⟩=some (.int .i64 now)/\U.cell? ⟨bl,0,none⟩=some (.slice al ps.length cl))) af (HC.o _ (ae aR w).drew) ?_
 intro zc;refine tkN 0 9 rfl ?_
 refine tkN 1 10 rfl ?_
 refine tkN 2 11 rfl ?_
 refine tkN 3 12 rfl ?_
 refine tkN 4 13 rfl ?_
 refine tkN 5 14 rfl ?_
 refine tkN 6 15 rfl ?_
 refine tkN 7 16 rfl ?_
 refine tkN 8 17 rfl ?_
 refine tkN 9 18 rfl ?_
 refine wpAnyH_ready (rs:=[10,13]) af aQ ?_;refine AllReadyH.cons rfl (fun K hK=>?hA) (AllReadyH.cons rfl (fun K hK=>?hB) AllReadyH.nil)
 case' hA =>
  go_simp;refine(aja.o _ (ae aR w).drew).mono ?_;rintro e u⟨rfl,hu⟩;have HU:=O (show Fr aR w u from((ae aR w).drew).trans hu);refine hK.out _ _ (HC.o _ HU.o) ?_;intro xz;clear hK zc hu K
  try simp only[Act.put,sA,sB,sC]
  refine tkN 11 20 rfl ?_
  refine wpAnyH_take (i:=12) (oi:=⟨some 21,_,_,_,_,_⟩) (v:=.agg #[.bool r.dm.aF,.string r.dm.host,.int .i64 r.dm.port,.bool r.o.aF,.string r.o.host,.int .i64 r.o.port,.string r.path,.string r.query,.bool r.fU,.string m,.string hd,.int .i64 (now+ni ps)]) rfl af af af (fun _ _ _ h=>h) (vz rfl (.tmp 10) (.tmp 12) (.tmp 14) (.tmp 15) (.tmp 16) (.tmp 20) rfl r.dm.aF r.o.aF r.fU r.dm.host r.o.host r.path r.query m hd r.dm.port r.o.port (now+ni ps) rfl rfl rfl rfl rfl rfl) jA ?_
  try simp only[Act.put,sA,sB,sC]
  refine eL 13 rfl fun K hK=>?_;go_simp;obtain⟨bx,I'⟩:∃bx,bx=u.heap.size:=⟨_,rfl⟩;obtain⟨w3,UX⟩:∃w3,w3=u.alloc (.cells FJ 155):=⟨_,rfl⟩;have HZB:=O (show w3.heap[bx]?=some (.cells FJ 155 (0,0))from by rw[UX,I'];exact aB _ _);have HW3:=O (show Fr aR w w3 from by rw[UX];exact HU.o.alloc _);have qp:w.heap.size<=bx:=by rw[I'];exact HU.o.size
  rw[<-UX, <-I'];refine hK.out _ _ (HC.o _ HW3.o) ?_;intro Am;clear hK xz K UX I'
 case' hB =>
  go_simp;obtain⟨bx,I'⟩:∃bx,bx=w.heap.size:=⟨_,rfl⟩;obtain⟨w2,aak⟩:∃w2,w2=(w.alloc (.cells FJ 155)).drew:=⟨_,rfl⟩;have lq:w2.heap[bx]?=some (.cells FJ 155 (0,0)):=by rw[aak,I'];exact aB _ _
  have aal:Fr aR w w2:=by rw[aak];exact((ae _ _).alloc _).drew
  have qp:w.heap.size<=bx:=by rw[I'];exact ay _
  rw[<-aak, <-I'];refine hK.out _ _ (HC.o _ aal) ?_;intro xz;clear hK zc K aak I'
  try simp only[Act.put,sA,sB,sC]
  refine eL 10 rfl fun K hK=>?_;go_simp;refine(aja.o _ aal).mono ?_;rintro e w3⟨rfl,hu⟩;have HZB:=O (hu.keep lq id);have HW3:=O (aal.trans hu);refine hK.out _ _ (HC.o _ HW3.o) ?_;intro Am;clear hK xz hu K lq aal
  try simp only[Act.put,sA,sB,sC]
  refine tkN 11 20 rfl ?_
  refine wpAnyH_take (i:=12) (oi:=⟨some 21,_,_,_,_,_⟩) (v:=.agg #[.bool r.dm.aF,.string r.dm.host,.int .i64 r.dm.port,.bool r.o.aF,.string r.o.host,.int .i64 r.o.port,.string r.path,.string r.query,.bool r.fU,.string m,.string hd,.int .i64 (now+ni ps)]) rfl af af af (fun _ _ _ h=>h) (vz rfl (.tmp 10) (.tmp 12) (.tmp 14) (.tmp 15) (.tmp 16) (.tmp 20) rfl r.dm.aF r.o.aF r.fU r.dm.host r.o.host r.path r.query m hd r.dm.port r.o.port (now+ni ps) rfl rfl rfl rfl rfl rfl) jA ?_
 all_goals
  try simp only[Act.put,sA,sB,sC]
  refine eL 14 rfl fun K hK=>?_;refine Ez rfl 155 (.tmp 8) (.tmp 21) rfl bx #[.bool r.dm.aF,.string r.dm.host,.int .i64 r.dm.port,.bool r.o.aF,.string r.o.host,.int .i64 r.o.port,.string r.path,.string r.query,.bool r.fU,.string m,.string hd,.int .i64 (now+ni ps)] rfl rfl 155 FJ HZB.o af rfl ct ?_
  obtain⟨W,hW⟩:∃W,W=w3.setRow bx #[.bool r.dm.aF,.string r.dm.host,.int .i64 r.dm.port,.bool r.o.aF,.string r.o.host,.int .i64 r.o.port,.string r.path,.string r.query,.bool r.fU,.string m,.string hd,.int .i64 (now+ni ps)]:=⟨_,rfl⟩;have Ci:Fr aR w W:=by rw[hW];exact iY HW3.o qp _
  have hWX:W.heap[bx]?=some (.cells x.toArray 155 (0,0)):=by rw[hW,HXC.o];exact kS HZB.o
  rw[<-hW];refine hK.out _ _ (HC.o _ Ci) ?_;intro Bv;clear hK Bv K hW HZB HW3
  try simp only[Act.put,List.setIfInBounds_toArray]
  refine wpAnyH_done af ?_ _;have HWF:=O Ci;have TN:=O hWX;obtain⟨avv,cvv,hvv⟩:=cP.form;rw[ai]at hvv;subst hvv;have HCT:=O (show Calls prog 134 #[.slice avv acc.length cvv,.agg x.toArray] W fun e w'=>e=.returned (.bool (acc.any (fun q=>X.ll q)))/\Fr aR W w' from by rw[HX.o];exact LS _ acc X W (bg cP.at Ci))
  have HBP:=O (show∀U,Fr (own (.slice avv acc.length cvv)) w U->U.heap[bp]?=some (.cells #[.slice avv acc.length cvv] 90 (0,0))from fun U hU=>hU.keep hp (fun hk=>by
   obtain⟨cc,e⟩:=cP.V6 hk;rw[hp]at e;cases e))
  have Se:=O (fun U (hU:Fr aR w U)=>cP.fr hU (fun _ _ h=>h));have d5:W.cell? ⟨bp,0,none⟩=some (.slice avv acc.length cvv):=by simp[World.cell?,HBP.o W (Ci.mono (fun _ _ h=>absurd h id))]
  have hxs:(prog.info? 155).map (·.size)=some x.toArray.size:=by rw[aW];exact Bo lF
  have HXS:=O hxs;have oB:base<=W.heap.size:=by have h1:=Ci.size;have h2:=bj hp;omega
  clear hp cP Ci hWX hxs;go_wp2_with (first|((with_reducible refine cY 23 ?_);refine aH rfl 155 (.tmp 8) rfl bx rfl _ x.toArray (0,0) _ TN.o underlying155 rfl HXS.o ?_)|fail)
  refine HCT.o.mono ?_;rintro e u2⟨rfl,nv⟩;have tW:=O (HWF.o.trans nv);have Qx:=O (nv.keep TN.o id);have HO2:=O (Se.o u2 tW.o);have kC:=HBP.o u2 (tW.o.mono (fun _ _ h=>absurd h id));have d6:u2.cell? ⟨bp,0,none⟩=some (.slice avv acc.length cvv):=by simp[World.cell?,kC]
  have eB:base<=u2.heap.size:=by have:=nv.size;omega
  clear nv d5 HCT;cases jn:acc.any (fun q=>X.ll q)
  ·have Oo:=O (show qo acc X=acc++[X]by
    unfold qo;rw[aq];rw[LU,jn];decide)
   clear jn
   go_wp2_with (first|((with_reducible refine cY 27 ?_);refine aH rfl 155 (.tmp 8) rfl bx rfl _ x.toArray (0,0) _ Qx.o underlying155 rfl HXS.o ?_)|(at_builtin;refine nQ rfl _ _ 90 155 rfl 12 144 (.agg FJ) underlying90 On rfl ag ag base (.slice avv acc.length cvv) (acc.map ef.cells) rfl (HO2.o.alloc _) u2.heap.size 1 x rfl lF xE.o (fun i u hi=>by rw[World.cell?_alloc_mark];simpa using hi) (by rw[ai];omega) bG ?_;intro v' w4 eY Ct;obtain⟨a4,c4,PJ⟩:=eY.form;subst PJ;have jV:Fr (own (.slice avv acc.length cvv)) u2 w4:=fk ((ae _ u2).alloc (.cells x.toArray 155)) Ct (fun k hk _=>hk);have vL:=HBP.o w4 ((tW.o.mono (fun _ _ h=>absurd h id)).step jV (fun _ _ h=>h));have k4:w4.cell? ⟨bp,0,none⟩=some (.slice avv acc.length cvv):=(by simp[World.cell?,vL]);have e4:w4.frozen? ⟨bp,0,none⟩=false:=(by simp[World.frozen?,vL]))|fail)
   clear GJ;go_end0;refine⟨rfl,_,b_ vL 0 _,?_,?_⟩
   ·rw[Oo.o,bH,cA,dn, <-HX.o];have Lv:OwnRows base 155 12 w4 (.slice a4 (acc.length+1) c4) (acc.map ef.cells++[x]):=by
     have h:=eY;rw[aM,ai,List.length_singleton]at h;exact h
    have kJ:Fr (one bp) w4 (w4.setCell ⟨bp,0,none⟩ (.slice a4 (acc.length+1) c4)):=(ae (one bp) w4).setCell (p:=⟨bp,0,none⟩) (fun _=>rfl) _;refine Lv.fr kJ ?_;intro k hk e;obtain⟨cc,ek⟩:=Lv.V6 hk;have e:k=bp:=e;rw[e,vL]at ek;cases ek
   ·exact(fX (S:=fun k=>k=bp\/own (.slice avv acc.length cvv) k) (tW.o.mono (fun _ _ h=>absurd h id)) jV (fun _ _ h=>Or.inr h)).setCell (p:=⟨bp,0,none⟩) (fun _=>Or.inl rfl) _
  ·have Oo:=O (show qo acc X=acc by
    unfold qo;rw[az];rw[LU,jn])
   clear jn;go_wp2;go_end0;exact⟨rfl,_,kC,by rw[Oo.o];exact HO2.o,tW.o.mono (fun _ _ h=>absurd h id)⟩
def C0(fP:Int)(cj:aj)(x:nU)(n:Int):Prop:=((fP=2\/fP=3)/\(x.eE.data.toList=[]\/x.eE.data.toList=mh\/x.eE.data.toList=qm))/\(1<=n/\n<=4294967295)/\(zM fP cj x).fair=true
def o8(fP:Int)(cj:aj)(x:nU)(n:Int)(w:World)(e:Ending)(w':World):Prop :=
 Fr aR w w'/\((¬C0 fP cj x n/\∃t v,e=.returned (.tuple #[.string ⟨#[]⟩,.iface t v]))\/(C0 fP cj x n/\e=.returned (.tuple #[.string (bA (zM fP cj x).text),.nilIface])))
theorem Sf(fP:Int)(aK bq cj eE user pass method target body bP:aj)(cy cM:Bool)(dom:Value)(n:Int)(w:World)(dY:dom.oneCell'=true)
  (x1:aK.size<=5000)(x2:bq.size<=5000)(x3:cj.size<=5000)(x4:user.size<=5000)(x5:pass.size<=5000)(x6:method.size<=5000)(x7:target.size<=5000)(x8:body.size<=5000)(x9:bP.size<=5000)
  (NI:om w 9 .u8 Rl)(hh:tM fP w) :
  Calls prog 50 #[.agg #[.int .i64 fP,.string aK,.string bq,.string cj,.bool cy,.string eE,.bool cM,dom],.agg #[.string user,.string pass],.string method,.string target,.string body,.string bP,.int .i64 n] w (o8 fP cj ⟨decide (fP=3),cy,aK,bq,eE,user,pass,method,target,body,bP,n.toNat⟩ n w):=by
 have yQ:∀l:Bs,eE.toList=l->eE=⟨l.toArray⟩:=fun l h=>Go.WideShapes.bytes_inj (by rw[<-aO,h]);by_cases hsq:(fP=2\/fP=3)/\(eE.toList=[]\/eE.toList=[97,117,116,104]\/eE.toList=[97,117,116,104,45,105,110,116])
 ·obtain⟨hs,hq⟩:=hsq;by_cases hn:1<=n/\n<=4294967295
  ·obtain⟨JS,CX⟩:=hn;obtain⟨k,rfl⟩:∃k:Nat,n=(k:Int):=⟨n.toNat,ab⟩;have key:Calls prog 50 #[.agg #[.int .i64 fP,.string aK,.string bq,.string cj,.bool cy,.string eE,.bool cM,dom],.agg #[.string user,.string pass],.string method,.string target,.string body,.string bP,.int .i64 (k:Int)] w (IH fP cj ⟨decide (fP=3),cy,aK,bq,eE,user,pass,method,target,body,bP,k⟩ k w):=by
    rcases hq with hq|hq|hq
    ·exact V_ fP aK bq cj eE user pass method target body bP cy cM dom k w dY (yQ _ hq) hs ab ab x1 x2 x3 x4 x5 x6 x7 x8 x9 NI hh
    ·exact LV fP aK bq cj eE user pass method target body bP cy cM dom k w dY (Or.inl (yQ _ hq)) hs ab ab x1 x2 x3 x4 x5 x6 x7 x8 x9 NI hh
    ·exact LV fP aK bq cj eE user pass method target body bP cy cM dom k w dY (Or.inr (yQ _ hq)) hs ab ab x1 x2 x3 x4 x5 x6 x7 x8 x9 NI hh
   refine key.mono ?_;rintro e w'⟨hf,hm⟩;refine⟨hf,?_⟩;rcases hm with ⟨hm,hr⟩|⟨h1,h2,h3,h4,h5,h6⟩
   ·exact Or.inl ⟨fun hg=>(by have hg:=hg.2.2;rw[Int.toNat_natCast,hm]at hg;cases hg),hr⟩
   ·refine Or.inr ⟨⟨⟨h1,?_⟩,⟨ab,ab⟩,h5⟩,h6⟩;show eE.data.toList=[]\/eE.data.toList=mh\/eE.data.toList=qm;rw[<-aO];exact hq
  ·have DB:n<1\/4294967295<n:=ab;have hng:∀x,¬C0 fP cj x n:=fun x h=>hn h.2.1;clear hn;have HG:∀t v (w':World),Fr aR w w'->o8 fP cj ⟨decide (fP=3),cy,aK,bq,eE,user,pass,method,target,body,bP,n.toNat⟩ n w (.returned (.tuple #[.string ⟨#[]⟩,.iface t v])) w':=fun t v w' hf=>⟨hf,Or.inl ⟨hng _,t,v,rfl⟩⟩;have HGG:=O HG;clear HG hng
   generalize o8 fP cj ⟨decide (fP=3),cy,aK,bq,eE,user,pass,method,target,body,bP,n.toNat⟩ n w=Q at *
   have dy:Fr aR w ((w.alloc (.cells #[.int .i64 fP,.string aK,.string bq,.string cj,.bool cy,.string eE,.bool cM,dom] 112)).alloc (.cells #[.string user,.string pass] 39)):=((ae aR w).alloc _).alloc _;have fO:=O dy;clear dy;rcases DB with hn|hn
   ·rcases hs with rfl|rfl<;>rcases hq with hq|hq|hq<;>obtain rfl:=yQ _ hq<;>clear hq <;>
     (go_enter func50,ntmps50
      go_wp2
      (first|go_ret2|skip)
      exact HGG.o _ _ _ fO.o)
   ·have PY:¬n<1:=ab;rcases hs with rfl|rfl<;>rcases hq with hq|hq|hq<;>obtain rfl:=yQ _ hq<;>clear hq <;>
     (go_enter func50,ntmps50
      go_wp2
      (first|go_ret2|skip)
      exact HGG.o _ _ _ fO.o)
 ·have hng:∀x:nU,x.eE=eE->¬C0 fP cj x n:=fun x hx h=>hsq ⟨h.1.1,by rw[<-hx,aO];exact h.1.2⟩;have HG:∀t v (w':World),Fr aR w w'->o8 fP cj ⟨decide (fP=3),cy,aK,bq,eE,user,pass,method,target,body,bP,n.toNat⟩ n w (.returned (.tuple #[.string ⟨#[]⟩,.iface t v])) w':=fun t v w' hf=>⟨hf,Or.inl ⟨hng _ rfl,t,v,rfl⟩⟩;have HGG:=O HG;clear HG hng
  generalize o8 fP cj ⟨decide (fP=3),cy,aK,bq,eE,user,pass,method,target,body,bP,n.toNat⟩ n w=Q at *
  have dy:Fr aR w ((w.alloc (.cells #[.int .i64 fP,.string aK,.string bq,.string cj,.bool cy,.string eE,.bool cM,dom] 112)).alloc (.cells #[.string user,.string pass] 39)):=((ae aR w).alloc _).alloc _;have fO:=O dy;clear dy;by_cases hs:fP=2\/fP=3
  ·have hq:¬(eE.toList=[]\/eE.toList=[97,117,116,104]\/eE.toList=[97,117,116,104,45,105,110,116]):=fun h=>hsq ⟨hs,h⟩;have q1:¬eE.toList=[]:=fun h=>hq (Or.inl h);have q2:¬eE.toList=[97,117,116,104]:=fun h=>hq (Or.inr (Or.inl h));have q3:¬eE.toList=[97,117,116,104,45,105,110,116]:=fun h=>hq (Or.inr (Or.inr h));have q4:(eE.toList== [])=false:=aN.2 q1
   have q5:(eE.toList== [97,117,116,104])=false:=aN.2 q2;have q6:(eE.toList== [97,117,116,104,45,105,110,116])=false:=aN.2 q3;have q7:eE.toList.isEmpty=false:=by cases hz:eE.toList with|nil=>exact absurd hz q1|cons _ _=>rfl
   clear hsq hq yQ;rcases hs with rfl|rfl
   ·go_enter func50,ntmps50;go_wp2
    (first|go_ret2|skip)
    exact HGG.o _ _ _ fO.o
   ·go_enter func50,ntmps50;go_wp2
    (first|go_ret2|skip)
    exact HGG.o _ _ _ fO.o
  ·have s2:¬fP=2:=fun h=>hs (Or.inl h);have s3:¬fP=3:=fun h=>hs (Or.inr h);clear hs hsq yQ;go_enter func50,ntmps50;go_wp2
   (first|go_ret2|skip)
   exact HGG.o _ _ _ fO.o
