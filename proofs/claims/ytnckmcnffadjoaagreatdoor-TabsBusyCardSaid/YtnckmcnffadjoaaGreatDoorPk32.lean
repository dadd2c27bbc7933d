/- Lemmas for the law's walk. -/
import Derived.Test.YtnckmcnffadjoaaGreatDoorPk31
set_option maxRecDepth 100000
set_option maxHeartbeats 16000000
set_option linter.unusedSimpArgs false
namespace Go.Proofs.YtnckmcnffadjoaaGreatDoor
open Go.Proofs.Tryz
open Go.RowKit
variable {S:Nat->Prop} {U:World} {g k T ch:Nat} {v:Value} {o:iz} {ah:Option Addr}
theorem afB(U:World)(T o:Nat){v:Int}(hc:U.cell? ⟨T,o,none⟩=some (.int .i64 v))(hf:U.frozen? ⟨T,o,none⟩=false)(h0:0<=v)(h1:v<1000000) :
  Calls prog 90 #[.pointer (some ⟨T,o,none⟩)] U fun e w'=>e=.returned (.tuple #[])/\w'=U.setCell ⟨T,o,none⟩ (.int .i64 (v+1)):=by
 go_enter func90,ntmps90;go_wp2;go_end0;exact⟨rfl,rfl⟩
def O9(e:TypeId):Prop:=(eR e/\e≠86)/\e≠171/\e≠43/\e≠75/\e≠9
theorem aa2:O9 3:=by unfold O9 eR;decide
theorem Xb:O9 162:=by unfold O9 eR;decide
theorem Jp:O9 30:=by unfold O9 eR;decide
section
variable {xw : Option (Nat × dx)} {base : Nat} {a U U' : World} {T : Nat} {t : fD}
theorem xL.far{ws:Nat->Option (Nat×dx)}(h:xL base U ws)(hf:Fr S U U')(oF:∀n,S n->base<=n)(hk:∀n,S n->∃c e,U.heap[n]?=some (.cells c e (0,0))/\eR e/\e≠86/\e≠9):xL base U' ws:=by
 obtain⟨pv,h1,h2⟩:=h;refine⟨pv,fun i B x hi=>(h1 i B x hi).fr hf ?_ (fun k NK e=>?_),h2⟩
 ·intro k hs _;obtain⟨c',e',q1,q2⟩:=hk k hs;exact⟨oF k hs,fun c f e=>by rw[q1]at e;cases e;exact q2.2.2 rfl⟩
 ·obtain⟨c',e',q1,q2⟩:=hk k e;exact(h1 i B x hi).wX q1 q2.1 q2.2.1 NK
theorem cW.far(h:cW xw a U T t)(hf:Fr S U U')(oF:∀n,S n->a.heap.size<=n)(hk:∀n,S n->∃c e,U.heap[n]?=some (.cells c e (0,0))/\O9 e):cW xw a U' T t:=by
 obtain⟨B,g,sv,sb,g1,g2,g3,g4⟩:=h.ex;obtain⟨d,hd,_⟩:=g1.eI;have hT:¬S T:=fun e=>by
  obtain⟨c,e',h1,h2⟩:=hk T e;rw[hd]at h1;cases h1;exact h2.2.2.2.1 rfl
 have ho:∀ {v:jG×List gZ} {o:iz},jS a.heap.size U v o->jS a.heap.size U' v o:=fun q=>q.rows (q.own.fr hf fun b hb hs=>by
  obtain⟨c,e',h1,h2⟩:=hk b hs;exact q.own.not h1 h2.2.1 hb)
 refine⟨⟨B,g,sv,sb,g1.fr hf hT,g2.far hf oF (fun n hn=>?_),?_,fun m hm=>⟨fun hd=>ho ((g4 m hm).1 hd),(g4 m hm).2⟩⟩,h.low,h.fr.step hf fun k hk e=>?_⟩
 ·obtain⟨c,e,h1,h2⟩:=hk n hn;exact⟨c,e,h1,h2.1.1,h2.1.2,h2.2.2.2.2⟩
 ·obtain⟨es,e1,e2,e3⟩:=g3;exact⟨es,e1,e2.fr hf fun b hb hs=>by
   obtain⟨c,e',h1,h2⟩:=hk b hs;exact e2.not h1 h2.2.2.1 hb,fun x hx=>ho (e3 x hx)⟩
 ·have:=oF k e;omega
end
def vT(n:Int):List Value:=[.int .i64 n]
theorem Mu:(prog.info? 3).map (fun i=>(i.zero,i.size,i.bytes))=some (some (.int .i64 0),1,8):=af
def Jq(base:Nat)(U:World)(V:Nat)(v:Value)(l:List Int)(e:Ending)(w':World):Prop :=
 e=.returned (.tuple #[])/\∃v',w'.heap[V]?=some (.cells #[v'] 162 (0,0))/\OwnRows base 3 1 w' v' (l.map vT)/\Fr (fun k=>k=V\/own v k) U w'
theorem QI{base:Nat}{W:World}{V cap:Nat}{l:List Int}{x:Int}(hg:W.ownsRow base 3 1 (.slice (some ⟨g,0,none⟩) (l.length+1) cap) (l.length+1) ((l.map vT).flatten++[.int .i64 x]))(hV:W.heap[V]?=some (.cells #[v] 162 (0,0)))(hF:Fr (own v) U W) :
  Jq base U V v (l++[x]) (.returned (.tuple #[])) (W.setCell ⟨V,0,none⟩ (.slice (some ⟨g,0,none⟩) (l.length+1) cap)):=by
 have ho:OwnRows base 3 1 W (.slice (some ⟨g,0,none⟩) (l.length+1) cap) ((l++[x]).map vT):=by
  refine⟨fun y hy=>?_,?_⟩
  ·obtain⟨n,_,rfl⟩:=bV.1 hy;exact⟨rfl,fun u hu=>by rcases cE.1 hu with rfl;rfl⟩
  ·have e:((l++[x]).map vT).length=l.length+1:=aQ;have e2:((l++[x]).map vT).flatten=(l.map vT).flatten++[.int .i64 x]:=by simp[vT]
   rw[e,e2];exact hg
 have hs:Fr (one V) W (W.setCell ⟨V,0,none⟩ (.slice (some ⟨g,0,none⟩) (l.length+1) cap)):=(ae (one V) W).setCell (p:=⟨V,0,none⟩) (fun _=>rfl) _;refine⟨rfl,_,b_ hV 0 _,ho.fr hs fun b hb e=>?_,((hF.mono fun _ _ h=>Or.inr h).step hs fun k hk e=>Or.inl e)⟩;exact ho.not hV ag (by rw[hb];exact ar some e)
section
variable {base : Nat} {U : World} {T o V : Nat} {v : Value} {l : List Int} {x : Int}
theorem afC(hV:U.heap[V]?=some (.cells #[v] 162 (0,0)))(hx:U.cell? ⟨T,o,none⟩=some (.int .i64 x))(cP:OwnRows base 3 1 U v (l.map vT))(hb:base<=U.heap.size)(hl:l.length<1000) :
  Calls prog 85 #[.pointer (some ⟨T,o,none⟩),.pointer (some ⟨V,0,none⟩)] U (Jq base U V v (l++[x])):=by
 obtain⟨i0,qD,pq,kZ,lq⟩:=info_parts Mu;obtain⟨av,cv,hv⟩:=cP.form;rw[ai]at hv;subst hv;have d1:U.cell? ⟨V,0,none⟩=some (.slice av l.length cv):=by simp[World.cell?,hV]
 have e1:U.frozen? ⟨V,0,none⟩=false:=by simp[World.frozen?,hV]
 have hVl:=bj hV;have hne:(Value.slice av l.length cv).ownBlock≠some V:=cP.not hV ag;have HV:=O hV;have HO:=O (show U.ownsRow base 3 1 (.slice av l.length cv) l.length (l.map vT).flatten by
  have h:=cP.2
  rwa [ai]at h)
 clear hV cP;go_enter func85,ntmps85
 go_region_law ((with_reducible refine mR ⟨some 8,_,_,_,_,_⟩ ?_)
                refine step_append_lies _ bC _ _ _ bC base 3 i0 _ 1 8 underlying162 qD pq kZ lq rfl ab (.slice av l.length cv) l.length _ bC (by have JU:=HO.o;repeat(first|exact JU|apply World.ownsRow.alloc|apply World.ownsRow.drew)) ⟨U.heap.size,0,none⟩ 1 1 [.int .i64 x] bC bC (kQ U [.int .i64 x] _) (by intro u hu;rcases cE.1 hu with rfl;rfl) ab fq ab bG (U.heap.size+1) aQ ?_
                intro gg cap w4 eY jC dN Ls
                have jV:Fr (own (.slice av l.length cv)) U w4:=fk (by repeat(first|exact ae _ _|apply aA|apply bz)) jC (fun _ hk _=>hk)
                have b4:=jV.keep HV.o (fun e=>hne e)
                have k4:w4.cell? ⟨V,0,none⟩=some (.slice av l.length cv):=by simp[World.cell?,b4]
                have e4:w4.frozen? ⟨V,0,none⟩=false:=by simp[World.frozen?,b4])
 all_goals
  go_end0;exact QI eY b4 jV
theorem afD(hV:U.heap[V]?=some (.cells #[v] 162 (0,0)))(hx:U.cell? ⟨T,o,none⟩=some (.int .i64 x))(cP:OwnRows base 3 1 U v (l.map vT))(hb:base<=U.heap.size)(hl:l.length<1000) :
  Calls prog 86 #[.pointer (some ⟨T,o,none⟩),.pointer (some ⟨V,0,none⟩)] U (Jq base U V v (l++[x])):=by
 obtain⟨i0,qD,pq,kZ,lq⟩:=info_parts Mu;obtain⟨av,cv,hv⟩:=cP.form;rw[ai]at hv;subst hv;have d1:U.cell? ⟨V,0,none⟩=some (.slice av l.length cv):=by simp[World.cell?,hV]
 have e1:U.frozen? ⟨V,0,none⟩=false:=by simp[World.frozen?,hV]
 have hVl:=bj hV;have hne:(Value.slice av l.length cv).ownBlock≠some V:=cP.not hV ag;have HV:=O hV;have HO:=O (show U.ownsRow base 3 1 (.slice av l.length cv) l.length (l.map vT).flatten by
  have h:=cP.2
  rwa [ai]at h)
 clear hV cP;go_enter func86,ntmps86
 go_region_law ((with_reducible refine mR ⟨some 8,_,_,_,_,_⟩ ?_)
                refine step_append_lies _ bC _ _ _ bC base 3 i0 _ 1 8 underlying162 qD pq kZ lq rfl ab (.slice av l.length cv) l.length _ bC (by have JU:=HO.o;repeat(first|exact JU|apply World.ownsRow.alloc|apply World.ownsRow.drew)) ⟨U.heap.size,0,none⟩ 1 1 [.int .i64 x] bC bC (kQ U [.int .i64 x] _) (by intro u hu;rcases cE.1 hu with rfl;rfl) ab fq ab bG (U.heap.size+1) aQ ?_
                intro gg cap w4 eY jC dN Ls
                have jV:Fr (own (.slice av l.length cv)) U w4:=fk (by repeat(first|exact ae _ _|apply aA|apply bz)) jC (fun _ hk _=>hk)
                have b4:=jV.keep HV.o (fun e=>hne e)
                have k4:w4.cell? ⟨V,0,none⟩=some (.slice av l.length cv):=by simp[World.cell?,b4]
                have e4:w4.frozen? ⟨V,0,none⟩=false:=by simp[World.frozen?,b4])
 all_goals
  go_end0;exact QI eY b4 jV
end
def yU(o:iz)(k:Nat):List (Nat×Nat):=([0,1,2,3].take k).filterMap fun i=>if(cJ o).1.testBit i then some (if i=3 then 0 else o.part.toNat,i)else none
theorem Ay(hk:k<4)(hb:(cJ o).1.testBit k=false):yU o (k+1)=yU o k:=by
 rcases(show k=0\/k=1\/k=2\/k=3 from ab)with rfl|rfl|rfl|rfl<;>simp[yU,List.filterMap_cons,hb]
theorem Mv(hk:k<4)(hb:(cJ o).1.testBit k=true):yU o (k+1)=yU o k++[(if k=3 then 0 else o.part.toNat,k)]:=by
 rcases(show k=0\/k=1\/k=2\/k=3 from ab)with rfl|rfl|rfl|rfl
 ·simp[yU,hb]
 ·have e:∀f:Nat->Option (Nat×Nat),([0,1]:List Nat).filterMap f=[0].filterMap f++[1].filterMap f:=fun f=>ji (l:=[0]) (l':=[1]);simp only[yU,List.take];rw[e];simp[hb]
 ·have e:∀f:Nat->Option (Nat×Nat),([0,1,2]:List Nat).filterMap f=[0,1].filterMap f++[2].filterMap f:=fun f=>ji (l:=[0,1]) (l':=[2]);simp only[yU,List.take];rw[e];simp[hb]
 ·have e:∀f:Nat->Option (Nat×Nat),([0,1,2,3]:List Nat).filterMap f=[0,1,2].filterMap f++[3].filterMap f:=fun f=>ji (l:=[0,1,2]) (l':=[3]);simp only[yU,List.take];rw[e];simp[hb]
theorem SX(o:iz)(k:Nat):∃r,mo o=yU o k++r:=⟨([0,1,2,3].drop k).filterMap fun i=>if(cJ o).1.testBit i then some (if i=3 then 0 else o.part.toNat,i)else none,by
 unfold yU mo;rw[<-ji,fM]⟩
theorem Xd(hk:k<4)(hb:(cJ o).1.testBit k=true):∃r,mo o=yU o k++(if k=3 then 0 else o.part.toNat,k) :: r:=by
 obtain⟨r,hr⟩:=SX o (k+1);exact⟨r,by rw[hr,Mv hk hb,cH,List.singleton_append]⟩
theorem O_(o:iz):(cJ o).1=0\/(((cJ o).1=1\/(cJ o).1=4\/(cJ o).1=7\/(cJ o).1=8\/(cJ o).1=10)/\o.right=true):=by
 cases hr:o.right
 ·exact Or.inl (by rw[uw hr])
 ·unfold cJ;rw[hr];simp only[eb]
  repeat' split
  all_goals simp
def Xe(R:List (Nat×Nat)->World->Prop)(o:iz)(bx:Nat)(X:Array Value)(i:Value)(wr:World):Prop :=
 ∃k:Nat,k<=4/\i=.int .i64 k/\R (yU o k) wr/\wr.heap[bx]?=some (.cells X 41 (0,0))
def vg(R:List (Nat×Nat)->World->Prop)(o:iz)(T g:Nat)(cap:Array Value):Prop :=
 ∀d c r,mo o=d++c :: r->∀V:World,R d V->Calls prog g (#[.pointer (some ⟨T,1+c.1*4+c.2,none⟩)]++cap) V fun e w'=>e=.returned (.tuple #[])/\R (d++[c]) w'/\∀(n:Nat) (k:Array Value),V.heap[n]?=some (.cells k 41 (0,0))->w'.heap[n]?=some (.cells k 41 (0,0))
theorem Xf{R:List (Nat×Nat)->World->Prop}{cap:Array Value}{bx:Nat}{X:Array Value}(jq:vg R o T g cap)(hk:k<4)(hb:(cJ o).1.testBit k=true){p:Nat}(hp:(if k=3 then 0 else o.part.toNat)=p){V:World}(hR:R (yU o k) V)(qp:V.heap[bx]?=some (.cells X 41 (0,0))) :
  Calls prog g (#[.pointer (some ⟨T,1+p*4+k,none⟩)]++cap) V fun e w'=>e=.returned (.tuple #[])/\R (yU o (k+1)) w'/\w'.heap[bx]?=some (.cells X 41 (0,0)):=by
 obtain⟨r,hr⟩:=Xd hk hb;rw[hp]at hr;refine(jq _ _ _ hr V hR).mono ?_;rintro e w'⟨h1,h2,h3⟩;rw[Mv hk hb,hp];exact⟨h1,h2,h3 _ _ qp⟩
theorem SY(U:World)(T:Nat)(o:jG)(hs:List gZ)(g:Nat)(cap:Array Value)(_eg:∀args w,(callFunc g args).run prog w=.ok (.enter g args) w)(R:List (Nat×Nat)->World->Prop)(h0:R [] U)(cK:∀d V V',R d V->Fr aR V V'->R d V')(jq:vg R (o.dS hs) T g cap)(ho:gH U o hs)(hc:(cJ (o.dS hs)).1=0) :
  Calls prog 84 #[.pointer (some ⟨T,0,none⟩),.agg o.cells.toArray,.func (.func g) #[] cap] U fun e w'=>e=.returned (.tuple #[])/\R (mo (o.dS hs)) w':=by
 obtain⟨ah,ch,gV⟩:=ho.gX;obtain⟨x1,mO⟩:∃x1,x1=U.alloc (.cells o.cells.toArray 41):=⟨_,rfl⟩;have df:Fr aR U x1:=by rw[mO];exact(ae aR U).alloc _
 have HK:=O (show x1.heap[U.heap.size]?=some (.cells o.cells.toArray 41 (0,0))by rw[mO];exact aB _ _);have HC:=O (xC x1 o hs (ho.dh df));have HR1:=O (cK _ _ _ h0 df);have lH:=O jq;have sx:=O cK;rw[hc]at HC;have xI:=O hc;rw[eA gV]at mO HK HC ⊢;have HX:=O mO;have lS:=O gV;clear gV df mO jq cK h0 ho hc;go_enter func84,ntmps84
 have vS:=O (aB U (.cells #[.int .i64 o.what,.int .i64 o.aL.part,.bool o.aL.dm.aF,.string o.aL.dm.host,.int .i64 o.aL.dm.port,.bool o.aL.o.aF,.string o.aL.o.host,.int .i64 o.aL.o.port,.string o.aL.path,.string o.aL.query,.string o.aL.method,.slice ah hs.length ch,.bool o.aL.fU,.string o.aL.body,.bool o.proxy,.string o.text,.string o.user,.string o.pass,.string o.bP,.int .i64 o.cert,.bool o.all,.int .i64 o.n] 41))
 go_wp2_with (first|((with_reducible refine cY 11 ?_);refine aH rfl 41 (.tmp 4) rfl U.heap.size rfl _ #[.int .i64 o.what,.int .i64 o.aL.part,.bool o.aL.dm.aF,.string o.aL.dm.host,.int .i64 o.aL.dm.port,.bool o.aL.o.aF,.string o.aL.o.host,.int .i64 o.aL.o.port,.string o.aL.path,.string o.aL.query,.string o.aL.method,.slice ah hs.length ch,.bool o.aL.fU,.string o.aL.body,.bool o.proxy,.string o.text,.string o.user,.string o.pass,.string o.bP,.int .i64 o.cert,.bool o.all,.int .i64 o.n] (0,0) _ vS.o underlying41 rfl af ?_)|fail)
 rw[<-HX.o];refine HC.o.mono ?_;rintro e u⟨rfl,hu⟩;have Nq:=O (sx.o _ _ _ HR1.o hu);have qR:=O (hu.keep HK.o id);clear hu HR1 HK HC HX vS;generalize U.heap.size=bx at *
 go_wp2
 go_loopw[15] (Xe R (o.dS hs) bx #[.int .i64 o.what,.int .i64 o.aL.part,.bool o.aL.dm.aF,.string o.aL.dm.host,.int .i64 o.aL.dm.port,.bool o.aL.o.aF,.string o.aL.o.host,.int .i64 o.aL.o.port,.string o.aL.path,.string o.aL.query,.string o.aL.method,.slice ah hs.length ch,.bool o.aL.fU,.string o.aL.body,.bool o.proxy,.string o.text,.string o.user,.string o.pass,.string o.bP,.int .i64 o.cert,.bool o.all,.int .i64 o.n]) (fun i _=>4-(intOf i).toNat)
 case atStart=>exact⟨0,aI _,rfl,Nq.o,qR.o⟩
 case round =>
  obtain⟨k,hk,rfl,hR,qp⟩:=hrel;clear Nq qR;have HR:=O hR;have HB:=O qp;clear hR qp;rcases(show k=0\/k=1\/k=2\/k=3\/k=4 from ab)with rfl|rfl|rfl|rfl|rfl
  ·have HN:=O (Ay (o:=o.dS hs) (k:=0) ag (by rw[xI.o];decide));go_wp2;go_roundw
   case rel=>exact⟨1,ab,a_,by rw[HN.o];exact HR.o,HB.o⟩
   case measure=>simp[intOf]
  ·have HN:=O (Ay (o:=o.dS hs) (k:=1) ag (by rw[xI.o];decide));go_wp2;go_roundw
   case rel=>exact⟨2,ab,a_,by rw[HN.o];exact HR.o,HB.o⟩
   case measure=>simp[intOf]
  ·have HN:=O (Ay (o:=o.dS hs) (k:=2) ag (by rw[xI.o];decide));go_wp2;go_roundw
   case rel=>exact⟨3,ab,a_,by rw[HN.o];exact HR.o,HB.o⟩
   case measure=>simp[intOf]
  ·have HN:=O (Ay (o:=o.dS hs) (k:=3) ag (by rw[xI.o];decide));go_wp2;go_roundw
   case rel=>exact⟨4,ab,a_,by rw[HN.o];exact HR.o,HB.o⟩
   case measure=>simp[intOf]
  ·go_wp2;go_end0;exact⟨rfl,HR.o⟩
theorem O'(U:World)(T:Nat)(o:jG)(hs:List gZ)(g:Nat)(cap:Array Value)(eg:∀args w,(callFunc g args).run prog w=.ok (.enter g args) w)(R:List (Nat×Nat)->World->Prop)(h0:R [] U)(cK:∀d V V',R d V->Fr aR V V'->R d V')(jq:vg R (o.dS hs) T g cap)(ho:gH U o hs)(hc:(cJ (o.dS hs)).1=1\/(cJ (o.dS hs)).1=4\/(cJ (o.dS hs)).1=7\/(cJ (o.dS hs)).1=8\/(cJ (o.dS hs)).1=10)(hr:(o.dS hs).right=true) :
  Calls prog 84 #[.pointer (some ⟨T,0,none⟩),.agg o.cells.toArray,.func (.func g) #[] cap] U fun e w'=>e=.returned (.tuple #[])/\R (mo (o.dS hs)) w':=by
 rcases hc with hc|hc|hc|hc|hc
 all_goals
  obtain⟨ah,ch,gV⟩:=ho.gX;obtain⟨x1,mO⟩:∃x1,x1=U.alloc (.cells o.cells.toArray 41):=⟨_,rfl⟩;have df:Fr aR U x1:=by rw[mO];exact(ae aR U).alloc _
  have HK:=O (show x1.heap[U.heap.size]?=some (.cells o.cells.toArray 41 (0,0))by rw[mO];exact aB _ _);have HC:=O (xC x1 o hs (ho.dh df));have HR1:=O (cK _ _ _ h0 df);have lH:=O jq;have sx:=O cK;rw[hc]at HC;have xI:=O hc;obtain⟨p0,p4⟩:=iM hr;obtain⟨p,hp⟩:∃p:Nat,o.aL.part=(p:Int):=⟨o.aL.part.toNat,by have:(o.dS hs).part=o.aL.part:=rfl;omega⟩;have hp4:p<4:=by have:(o.dS hs).part=o.aL.part:=rfl;omega
  have HP:=O hp;have HPT:=O (show(o.dS hs).part.toNat=p by have:(o.dS hs).part=o.aL.part:=rfl;omega);have q1:(p:Int)<4:=ab;have q2:(0:Int)<=(p:Int):=ab;have q3:¬(p:Int)<0:=ab;have q4:¬(4:Int)<=(p:Int):=ab;rw[eA gV]at mO HK HC ⊢;have HX:=O mO;have lS:=O gV;clear gV df mO jq cK h0 ho hc hr p0 p4 hp;go_enter func84,ntmps84
  have vS:=O (aB U (.cells #[.int .i64 o.what,.int .i64 o.aL.part,.bool o.aL.dm.aF,.string o.aL.dm.host,.int .i64 o.aL.dm.port,.bool o.aL.o.aF,.string o.aL.o.host,.int .i64 o.aL.o.port,.string o.aL.path,.string o.aL.query,.string o.aL.method,.slice ah hs.length ch,.bool o.aL.fU,.string o.aL.body,.bool o.proxy,.string o.text,.string o.user,.string o.pass,.string o.bP,.int .i64 o.cert,.bool o.all,.int .i64 o.n] 41))
  go_wp2_with (first|((with_reducible refine cY 11 ?_);refine aH rfl 41 (.tmp 4) rfl U.heap.size rfl _ #[.int .i64 o.what,.int .i64 o.aL.part,.bool o.aL.dm.aF,.string o.aL.dm.host,.int .i64 o.aL.dm.port,.bool o.aL.o.aF,.string o.aL.o.host,.int .i64 o.aL.o.port,.string o.aL.path,.string o.aL.query,.string o.aL.method,.slice ah hs.length ch,.bool o.aL.fU,.string o.aL.body,.bool o.proxy,.string o.text,.string o.user,.string o.pass,.string o.bP,.int .i64 o.cert,.bool o.all,.int .i64 o.n] (0,0) _ vS.o underlying41 rfl af ?_)|fail)
  rw[<-HX.o];refine HC.o.mono ?_;rintro e u⟨rfl,hu⟩;have Nq:=O (sx.o _ _ _ HR1.o hu);have qR:=O (hu.keep HK.o id);clear hu HR1 HK HC HX vS;generalize U.heap.size=bx at *
  go_wp2
  go_loopw[15] (Xe R (o.dS hs) bx #[.int .i64 o.what,.int .i64 o.aL.part,.bool o.aL.dm.aF,.string o.aL.dm.host,.int .i64 o.aL.dm.port,.bool o.aL.o.aF,.string o.aL.o.host,.int .i64 o.aL.o.port,.string o.aL.path,.string o.aL.query,.string o.aL.method,.slice ah hs.length ch,.bool o.aL.fU,.string o.aL.body,.bool o.proxy,.string o.text,.string o.user,.string o.pass,.string o.bP,.int .i64 o.cert,.bool o.all,.int .i64 o.n]) (fun i _=>4-(intOf i).toNat)
  case atStart=>exact⟨0,aI _,rfl,Nq.o,qR.o⟩
  case round =>
   obtain⟨k,hk,rfl,hR,qp⟩:=hrel;clear Nq qR;have HR:=O hR;have HB:=O qp;clear hR qp;have c1:wr.cell? ⟨bx,1,none⟩=some (.int .i64 p):=by simp[World.cell?,HB.o,HP.o]
   by_cases KP:k<4
   ·cases hb:(cJ (o.dS hs)).1.testBit k
    ·have HN:=O (Ay KP hb);rw[xI.o]at hb;rcases(show k=0\/k=1\/k=2\/k=3 from ab)with rfl|rfl|rfl|rfl
     all_goals first
      |exact absurd hb ag
      |(clear hb
        go_wp2
        go_roundw
        case rel=>first|exact⟨1,ab,a_,by rw[HN.o];exact HR.o,HB.o⟩|exact⟨2,ab,a_,by rw[HN.o];exact HR.o,HB.o⟩|exact⟨3,ab,a_,by rw[HN.o];exact HR.o,HB.o⟩|exact⟨4,ab,a_,by rw[HN.o];exact HR.o,HB.o⟩
        case measure=>simp[intOf])
    ·have hq:∃q:Nat,q=(if k=3 then 0 else(o.dS hs).part.toNat):=⟨_,rfl⟩;obtain⟨q,hq⟩:=hq;have akE:=O (Xf (p:=q) lH.o KP hb hq.symm HR.o HB.o);rw[HPT.o]at hq;rw[xI.o]at hb;rcases(show k=0\/k=1\/k=2\/k=3 from ab)with rfl|rfl|rfl|rfl
     all_goals first
      |exact absurd hb ag
      |(clear hb HR HB
        first|rw[aq ag]at hq|rw[az rfl]at hq
        subst hq
        go_wp2_with fail
        refine akE.o.mono ?_
        rintro e w1⟨rfl,g1,g2⟩
        go_wp2
        go_roundw
        case rel=>first|exact⟨1,ab,a_,g1,g2⟩|exact⟨2,ab,a_,g1,g2⟩|exact⟨3,ab,a_,g1,g2⟩|exact⟨4,ab,a_,g1,g2⟩
        case measure=>simp[intOf])
   ·obtain rfl:k=4:=ab;go_wp2;go_end0;exact⟨rfl,HR.o⟩
theorem xa(U:World)(T:Nat)(o:jG)(hs:List gZ)(g:Nat)(cap:Array Value)(eg:∀args w,(callFunc g args).run prog w=.ok (.enter g args) w)(R:List (Nat×Nat)->World->Prop)(h0:R [] U)(cK:∀d V V',R d V->Fr aR V V'->R d V')(jq:vg R (o.dS hs) T g cap)(ho:gH U o hs) :
  Calls prog 84 #[.pointer (some ⟨T,0,none⟩),.agg o.cells.toArray,.func (.func g) #[] cap] U fun e w'=>e=.returned (.tuple #[])/\R (mo (o.dS hs)) w':=by
 rcases O_ (o.dS hs)with hc|⟨hc|hc|hc|hc|hc,hr⟩
 ·exact SY U T o hs g cap eg R h0 cK jq ho hc
 all_goals exact O' U T o hs g cap eg R h0 cK jq ho (by simp[hc]) hr
theorem ju{P:Program}{fn:Func}{p u v:Tmp}{ty:TypeId}(h:fn.results= #[.cell p ty,.tmp u,.tmp v])(tmps:Array Value)(w:World)(g:Nat)(t:TypeId)(cs:Array Value)(fr:Nat×Nat)(d:TypeDesc)
  (hp:tmps.getD p undef=.pointer (some ⟨g,0,none⟩))(hg:w.heap[g]?=some (.cells cs t fr))
  (hu:P.underlying ty=some d)(hd:(match d with| .struct _| .array _ _=>true|_=>false)=true)(hi:(P.info? ty).map (·.size)=some cs.size) :
  (results fn tmps).run P w=.ok (.tuple #[.agg cs,tmps.getD u undef,tmps.getD v undef]) w:=by
 have hp':tmps[p]?.getD undef=.pointer (some ⟨g,0,none⟩):=by simpa using hp
 simp[results,h,hp',asAddr,run_loadVar_row w g t ty cs fr d hg hu hd hi,Result.andThen]
def SZ(n:Nat)(o:jG)(ah:Option Addr)(nh ch:Nat)(r:kx)(gG fin:Int):List Value:=[.int .i64 n,.int .i64 o.what,.int .i64 o.aL.part,.bool o.aL.dm.aF,.string o.aL.dm.host,.int .i64 o.aL.dm.port,.bool o.aL.o.aF,.string o.aL.o.host,.int .i64 o.aL.o.port,.string o.aL.path,.string o.aL.query,.string o.aL.method,.slice ah nh ch,.bool o.aL.fU,.string o.aL.body,.bool o.proxy,.string o.text,.string o.user,.string o.pass,.string o.bP,.int .i64 o.cert,.bool o.all,.int .i64 o.n,.int .i64 r.what,.string r.head,.int .i64 r.cert,.int .i64 gG,.int .i64 fin]
theorem ER{n:Nat}{o:jG}{hs:List gZ}(h:o.aL.eo=.slice ah hs.length ch)(op:iz)(r:kx)(gG fin:Int):Fo (⟨n,op,r,gG,fin⟩,(o,hs))=SZ n o ah hs.length ch r gG fin:=by
 unfold Fo jG.cells gq.cells;rw[h];rfl
theorem Xg{o:jG}{nh:Nat}(h:o.aL.eo=.slice ah nh ch):o.cells=[.int .i64 o.what,.int .i64 o.aL.part,.bool o.aL.dm.aF,.string o.aL.dm.host,.int .i64 o.aL.dm.port,.bool o.aL.o.aF,.string o.aL.o.host,.int .i64 o.aL.o.port,.string o.aL.path,.string o.aL.query,.string o.aL.method,.slice ah nh ch,.bool o.aL.fU,.string o.aL.body,.bool o.proxy,.string o.text,.string o.user,.string o.pass,.string o.bP,.int .i64 o.cert,.bool o.all,.int .i64 o.n]:=by
 unfold jG.cells gq.cells;rw[h];rfl
theorem C7(n:Nat)(o:jG)(ah:Option Addr)(nh ch:Nat)(r:kx)(gG fin:Int):∀u∈SZ n o ah nh ch r gG fin,u.oneCell'=true:=by
 intro u hu;unfold SZ at hu;simp only[bB,cq,dU]at hu;rcases hu with rfl|rfl|rfl|rfl|rfl|rfl|rfl|rfl|rfl|rfl|rfl|rfl|rfl|rfl|rfl|rfl|rfl|rfl|rfl|rfl|rfl|rfl|rfl|rfl|rfl|rfl|rfl|rfl<;>rfl
theorem aa4(n:Nat)(o:jG)(ah:Option Addr)(nh ch:Nat)(r:kx)(gG fin:Int):prog.built 43 [(0,.int .i64 n),(1,.agg #[.int .i64 o.what,.int .i64 o.aL.part,.bool o.aL.dm.aF,.string o.aL.dm.host,.int .i64 o.aL.dm.port,.bool o.aL.o.aF,.string o.aL.o.host,.int .i64 o.aL.o.port,.string o.aL.path,.string o.aL.query,.string o.aL.method,.slice ah nh ch,.bool o.aL.fU,.string o.aL.body,.bool o.proxy,.string o.text,.string o.user,.string o.pass,.string o.bP,.int .i64 o.cert,.bool o.all,.int .i64 o.n]),(2,.agg #[.int .i64 r.what,.string r.head,.int .i64 r.cert]),(3,.int .i64 gG),(4,.int .i64 fin)]=some (SZ n o ah nh ch r gG fin).toArray:=af
def xb:Array Value:= #[.int .i64 0,.int .i64 0,.int .i64 0,.bool false,.string ⟨#[]⟩,.int .i64 0,.bool false,.string ⟨#[]⟩,.int .i64 0,.string ⟨#[]⟩,.string ⟨#[]⟩,.string ⟨#[]⟩,.slice none 0 0,.bool false,.string ⟨#[]⟩,.bool false,.string ⟨#[]⟩,.string ⟨#[]⟩,.string ⟨#[]⟩,.string ⟨#[]⟩,.int .i64 0,.bool false,.int .i64 0,.int .i64 0,.string ⟨#[]⟩,.int .i64 0,.int .i64 0,.int .i64 0]
theorem Jr:(prog.info? 43).map (fun i=>(i.zero,i.size,i.bytes))=some (some (.agg xb),28,328):=af
theorem Pc(n:Nat)(o:jG)(ah:Option Addr)(nh ch:Nat)(r:kx)(gG fin:Int):Instr.fill (fun i=>some (i*28,28)) ((Array.range (1*28)).map ((Value.agg xb).cells[· %(Value.agg xb).cells.size]!)) [(0,.agg (SZ n o ah nh ch r gG fin).toArray)]=some (SZ n o ah nh ch r gG fin).toArray:=af
theorem vC{P:Program}{ops:Array Oper}{o:Oper}{a:Act}{w:World}{K:Act->World->Prop}{Q:Exit->Act->World->Prop}{E:Prop}(zd:o.guard=none)(t e:TypeId)(len:Nat)(parts:Array (Nat×Operand))(ho:o.op=.buildSlice t len parts)
  (cells:Array Value)(ie:TypeInfo)(z:Value)(vs:List (Nat×Value))(he:(parts.map fun(i,x)=>(i,a.eval x)).toList=vs)
  (hu:P.underlying t=some (.slice e))(hie:P.info? e=some ie)(hz:ie.zero=some z)(Ik:¬len*ie.size>2^24)(qh:¬len*ie.size=0)
  (hf:Instr.fill (fun i=>some (i*ie.size,ie.size)) ((Array.range (len*ie.size)).map (z.cells[· %z.cells.size]!)) vs=some cells)
  (h:K (a.put o.dst (.slice (some ⟨w.heap.size,0,none⟩) len len)) (w.alloc (.cells cells e))):if Region.wanted o (yielded ops a.tmps)=true then Oper.wp P o a w K Q else E:=by
 have hw:Region.wanted o (yielded ops a.tmps)=true:=by simp[Region.wanted,zd]
 rw[az hw];exact wp_buildSlice t e len parts ho cells ie z hu hie hz Ik qh (by rw[he];exact hf) h
theorem jT{b o:Nat}{p q r:List Value}(h:U.rangeAt b o (p++(q++r))):U.rangeAt b (o+p.length) q:=fun j v hj=>by
 have hl:=(List.getElem?_eq_some_iff.1 hj).1;have:=h (p.length+j) v (by rw[List.getElem?_append_right ab,show p.length+j-p.length=j from ab,List.getElem?_append_left hl];exact hj)
 rwa [<-jU]at this
theorem yV{o:Nat}{cs:List Value}(h:U.rangeAt T o cs)(hk:o+cs.length<=k):(U.setCell ⟨T,k,none⟩ v).rangeAt T o cs:=bX h T k [v] (Or.inr (Or.inl hk))
section
variable {xw : Option (Nat × dx)} {a U U' : World} {T : Nat} {t : fD}
def aa7(o:jG)(ah:Option Addr)(nh ch:Nat)(r:kx)(gG steps:Int)(i T R:Nat)(V:World):Prop:=V.rangeAt T (17+i*45+1) [.int .i64 o.what,.int .i64 o.aL.part,.bool o.aL.dm.aF,.string o.aL.dm.host,.int .i64 o.aL.dm.port,.bool o.aL.o.aF,.string o.aL.o.host,.int .i64 o.aL.o.port,.string o.aL.path,.string o.aL.query,.string o.aL.method,.slice ah nh ch,.bool o.aL.fU,.string o.aL.body,.bool o.proxy,.string o.text,.string o.user,.string o.pass,.string o.bP,.int .i64 o.cert,.bool o.all,.int .i64 o.n]/\V.rangeAt R 0 [.int .i64 r.what,.string r.head,.int .i64 r.cert]/\V.cell? ⟨T,17+i*45+24,none⟩=some (.int .i64 gG)/\V.cell? ⟨T,287,none⟩=some (.int .i64 steps)
theorem gu.aa7{B:Nat}{g:Nat->rp}{sv:Value}(h:gu U T B g sv t){i:Nat}(hi:i<6){ah:Option Addr}{nh ch R:Nat}{r:kx}(hh:(g i).o.aL.eo=.slice ah nh ch)(hR:U.heap[R]?=some (.cells (o_ r).toArray 30 (0,0))) :
  aa7 (g i).o ah nh ch r (t.tab i).gG t.steps i T R U:=by
 refine⟨?_,vB (cs:=o_ r) hR,h.tab i hi 24 _ rfl,h.steps⟩;have:=jT (p:=[.int .i64 (t.tab i).does]) (q:=(g i).o.cells) (h.tab i hi);rw[Xg hh]at this;exact this
theorem gu.more{B:Nat}{g:Nat->rp}{sv v':Value}{sb:Nat->Nat}{es:List (xK×(jG×List gZ))}(h1:gu U T B g sv t)(h2:xL a.heap.size U (oD xw B sb t))(F7:es.map (·.1)=t.cX)(mq:OwnRows a.heap.size 43 28 U sv (es.map Fo))(CE:∀x∈es,jS a.heap.size U x.2 x.1.op)
  (h4:∀n,n<6->((t.tab n).does≠0->jS a.heap.size U ((g n).o,(g n).hs) (t.tab n).op)/\((t.tab n).does=2\/(t.tab n).does=3->(g n).sp=.pointer (some ⟨sb n,0,none⟩)))(lp:a.heap.size<=T)(cK:Fr aR a U)
  {i:Nat}(hi:i<6)(hd:(t.tab i).does≠0)(r:kx)(hF:Fr (own sv) U U')(cP:OwnRows a.heap.size 43 28 U' v' (es.map Fo++[Fo (⟨i,(t.tab i).op,r,(t.tab i).gG,t.steps⟩,((g i).o,(g i).hs))])) :
  gu U' T B g sv t/\cW xw a ((U'.setCell ⟨T,288,none⟩ v').setCells T (17+i*45) (mX fe zeroV)) T (ja t i r)/\(U'.setCell ⟨T,288,none⟩ v').there T (17+i*45) 45/\Fr (one T) U' ((U'.setCell ⟨T,288,none⟩ v').setCells T (17+i*45) (mX fe zeroV))/\gR U ((U'.setCell ⟨T,288,none⟩ v').setCells T (17+i*45) (mX fe zeroV)):=by
 obtain⟨d,hbd,_⟩:=h1.eI;have hk:∀n,own sv n->∃c,U.heap[n]?=some (.cells c 43 (0,0)):=fun n hn=>mq.BX hn;have hT:¬own sv T:=fun e=>by
  obtain⟨c,hc⟩:=hk T e;rw[hbd]at hc;cases hc
 have b1:=h1.fr hF hT;have b2:=h2.far hF (fun n hn=>mq.block n hn) (fun n hn=>by
  obtain⟨c,hc⟩:=hk n hn;exact⟨c,_,hc,mK.1,mK.2,ag⟩)
 have ho:∀ {v:jG×List gZ} {o:iz},jS a.heap.size U v o->jS a.heap.size U' v o:=fun q=>q.rows (q.own.fr hF fun b hb hs=>by
  obtain⟨c,hc⟩:=hk b hs;exact q.own.not hc ag hb)
 have b3:ot a.heap.size U' v' (t.cX++[⟨i,(t.tab i).op,r,(t.tab i).gG,t.steps⟩]):=by
  refine⟨es++[(⟨i,(t.tab i).op,r,(t.tab i).gG,t.steps⟩,((g i).o,(g i).hs))],by rw[bH,F7];rfl,by rw[bH];exact cP,fun x hx=>?_⟩;rcases bK.1 hx with hx|hx
  ·exact ho (CE x hx)
  ·rcases cE.1 hx with rfl
   exact ho ((h4 i hi).1 hd)
 have q1:=b1.WL v' (t.cX++[⟨i,(t.tab i).op,r,(t.tab i).gG,t.steps⟩]);have q2:=q1.1.OK hi fe zeroV;have hkt:gR U ((U'.setCell ⟨T,288,none⟩ v').setCells T (17+i*45) (mX fe zeroV)):=by
  obtain⟨d',tV,_⟩:=b1.eI;refine((lD U).step hF fun n c e _ hn he q=>?_).tabs tV (q1.2.trans q2.2);obtain⟨c',Yl⟩:=hk n q;rw[Yl]at hn;cases hn;exact he.2.1 rfl
 refine⟨b1,?_,q1.1.there ab,q1.2.trans q2.2,hkt⟩;have aqh:Fr aR a U':=cK.step hF fun k hk e=>by have:=mq.block k e;omega
 obtain⟨c',Yl,_⟩:=b1.eI;obtain⟨c2,sN,_⟩:=q1.1.eI;have b2':=(b2.one lp Yl rD.1 rD.2 ag q1.2);have b3':=(b3.one Yl ag ag q1.2)
 exact kH (t:={t with cX:=t.cX++[⟨i,(t.tab i).op,r,(t.tab i).gG,t.steps⟩]}) (t':=ja t i r) q1.1 b2' b3' (fun n hn=>⟨fun tV=>(ho ((h4 n hn).1 tV)).one Yl ag q1.2,(h4 n hn).2⟩) lp (aqh.step q1.2 fun k hk e=>by have e':k=T:=e;omega) q2 rfl (OO (t:={t with cX:=t.cX++[⟨i,(t.tab i).op,r,(t.tab i).gG,t.steps⟩]}) (t':=ja t i r) rfl i (fun n hn=>aq hn) (by simp[ja,fe]) (by simp[ja,fe])) (fun j hj=>by
   by_cases ei:j=i
   ·subst ei;simp[ja,fe]
   ·simp only[ja,aq ei];exact⟨fun tV=>Or.inl ⟨trivial,trivial,trivial,tV⟩,(h4 j hj).2⟩)
theorem ES(h:cW xw a U T t){i:Nat}(hi:i<6)(r:kx)(hd:(t.tab i).does≠0)(hl:t.cX.length<1000000) :
  Calls prog 88 #[.pointer (some ⟨T,0,none⟩),.int .i64 i,.pointer (some ⟨T,17+i*45,none⟩),.agg #[.int .i64 r.what,.string r.head,.int .i64 r.cert]] U fun e w'=>e=.returned (.tuple #[.agg #[.int .i64 r.what,.string r.head,.int .i64 r.cert],.bool true,.nilIface])/\cW xw a w' T (ja t i r)/\gR U w':=by
 obtain⟨x2,P2⟩:∃x2,x2=(U.alloc (.cells #[.int .i64 r.what,.string r.head,.int .i64 r.cert] 30)).alloc (.cells #[.int .i64 0,.string ⟨#[]⟩,.int .i64 0] 30):=⟨_,rfl⟩;have dy:Fr aR U x2:=by rw[P2];exact((ae aR U).alloc _).alloc _
 have k7:x2.heap[U.heap.size]?=some (.cells #[.int .i64 r.what,.string r.head,.int .i64 r.cert] 30 (0,0)):=by rw[P2];exact((ae aR _).alloc _).keep (aB _ _) id
 have k8:x2.heap[U.heap.size+1]?=some (.cells #[.int .i64 0,.string ⟨#[]⟩,.int .i64 0] 30 (0,0)):=by
  rw[P2];have:=aB (U.alloc (.cells #[.int .i64 r.what,.string r.head,.int .i64 r.cert] 30)) (.cells #[.int .i64 0,.string ⟨#[]⟩,.int .i64 0] 30);simpa using this
 have hU2:x2.heap.size=U.heap.size+2:=by rw[P2];simp
 have fO:=O (dy.drew);obtain⟨R,hR⟩:∃R,R=U.heap.size:=⟨_,rfl⟩;have hxd:x2.drew.heap.size=R+2:=hU2.trans (by rw[hR]);have h':=h.dh (dy.drew);have k7':x2.drew.heap[R]?=some (.cells #[.int .i64 r.what,.string r.head,.int .i64 r.cert] 30 (0,0)):=by rw[hR];exact k7
 have k8':x2.drew.heap[R+1]?=some (.cells #[.int .i64 0,.string ⟨#[]⟩,.int .i64 0] 30 (0,0)):=by rw[hR];exact k8
 obtain⟨B,g,sv,sb,h1,h2,⟨es,F7,mq,CE⟩,h4⟩:=h'.ex;have hTl:T<R:=by
  obtain⟨_,_,_,_,q1,_⟩:=h.ex;have:=q1.lt;omega
 have JV:=(h4 i hi).1 hd;obtain⟨ah,ch,hh⟩:=JV.own.form;rw[ai]at hh;have F1:=h1.aa7 hi hh k7';have acP:=O (fun U' v' r hF cP=>gu.more (U':=U') (v':=v') h1 h2 F7 mq CE h4 h'.low h'.fr hi hd r hF cP);have afF:es.length<1000000:=by rw[<-ai (f:=(·.1)),F7];exact hl
 have iD:a.heap.size<=R:=by have:=h.fr.size;omega
 obtain⟨x,hX⟩:∃x,x=SZ i (g i).o ah (g i).hs.length ch r (t.tab i).gG t.steps:=⟨_,rfl⟩;have QB:=O (ER (n:=i) hh (t.tab i).op r (t.tab i).gG t.steps);have M4:=O (show∀u∈x,u.oneCell'=true by rw[hX];exact C7 _ _ _ _ _ _ _ _);have HXL:=O (show x.length=28 by rw[hX];rfl);obtain⟨asv,csv,Xh⟩:=mq.form;rw[ai]at Xh
 have acQ:=O (show x2.drew.ownsRow a.heap.size 43 28 (.slice asv es.length csv) es.length (es.map Fo).flatten by
  have q:=mq.2
  rwa [ai,Xh]at q)
 have afG:=O (show∀n c e,x2.drew.heap[n]?=some (.cells c e (0,0))->e≠43->(Value.slice asv es.length csv).ownBlock≠some n from fun n c e hn he=>by rw[<-Xh];exact mq.not hn he);have HES:=O (show∀y∈es.map Fo,y.length=28/\∀u∈y,u.oneCell'=true from mq.1);have HBT:=O (h1.eI);have d288:=h1.st;rw[Xh]at d288 acP;have HR:=O hR;have HRU:=O (show U.heap.size<=R+1 from ab);have HX:=O P2;have VK:=O hX
 have HK7:=O k7';have HK8:=O k8';have HXD:=O hxd;obtain⟨i0,qD,pq,kZ,lq⟩:=info_parts Jr;generalize (g i).o=o at *
 generalize (g i).hs=hs at *
 generalize hnh:hs.length=nh at *
 generalize aqj:(t.tab i).gG=gG at *
 generalize aqk:t.steps=steps at *
 clear hnh h1 h2 F7 mq CE h4 h' h hd JV hh Xh dy k7 k8 k7' k8' hX P2 hR hU2 aqj aqk hxd;go_enter func88,ntmps88;go_wp2_with fail
 rw[<-HX.o, <-HR.o];clear HX;unfold Go.Proofs.YtnckmcnffadjoaaGreatDoor.aa7 at F1
 refine wp_region_held_drew (S:=(fun V=>V.rangeAt T (17+i*45+1) [.int .i64 o.what,.int .i64 o.aL.part,.bool o.aL.dm.aF,.string o.aL.dm.host,.int .i64 o.aL.dm.port,.bool o.aL.o.aF,.string o.aL.o.host,.int .i64 o.aL.o.port,.string o.aL.path,.string o.aL.query,.string o.aL.method,.slice ah nh ch,.bool o.aL.fU,.string o.aL.body,.bool o.proxy,.string o.text,.string o.user,.string o.pass,.string o.bP,.int .i64 o.cert,.bool o.all,.int .i64 o.n]/\V.rangeAt R 0 [.int .i64 r.what,.string r.head,.int .i64 r.cert]/\V.cell? ⟨T,17+i*45+24,none⟩=some (.int .i64 gG)/\V.cell? ⟨T,287,none⟩=some (.int .i64 steps))) af (by exact F1) ?_
 intro zc;refine tkN 0 11 rfl ?_
 refine tkN 1 12 rfl ?_
 refine tkN 2 13 rfl ?_
 refine tkN 3 14 rfl ?_
 refine tkN 5 16 rfl ?_
 refine tkN 6 17 rfl ?_
 refine tkN 7 18 rfl ?_
 refine tkN 8 19 rfl ?_
 refine tT 9 20 rfl (fB bC 41 (.tmp 19) rfl T (17+i*45+1) rfl ([.int .i64 o.what,.int .i64 o.aL.part,.bool o.aL.dm.aF,.string o.aL.dm.host,.int .i64 o.aL.dm.port,.bool o.aL.o.aF,.string o.aL.o.host,.int .i64 o.aL.o.port,.string o.aL.path,.string o.aL.query,.string o.aL.method,.slice ah nh ch,.bool o.aL.fU,.string o.aL.body,.bool o.proxy,.string o.text,.string o.user,.string o.pass,.string o.bP,.int .i64 o.cert,.bool o.all,.int .i64 o.n]) _ (fun w hw=>hw.1) underlying41 rfl af) ?_
 try simp only[Act.put,sA,sB,sC]
 refine tT 10 21 rfl (fB bC 30 (.tmp 7) rfl R 0 rfl ([.int .i64 r.what,.string r.head,.int .i64 r.cert]) _ (fun w hw=>hw.2.1) underlying30 rfl af) ?_
 try simp only[Act.put,sA,sB,sC]
 refine tkN 11 22 rfl ?_
 refine tkN 12 23 rfl ?_
 refine tkN 13 24 rfl ?_
 refine tkN 14 25 rfl ?_
 refine tkN 15 26 rfl ?_
 refine tkN 16 27 rfl ?_
 refine tkN 17 28 rfl ?_
 refine tkN 18 29 rfl ?_
 have YB:prog.built 43 [(0,.int .i64 i),(1,.agg #[.int .i64 o.what,.int .i64 o.aL.part,.bool o.aL.dm.aF,.string o.aL.dm.host,.int .i64 o.aL.dm.port,.bool o.aL.o.aF,.string o.aL.o.host,.int .i64 o.aL.o.port,.string o.aL.path,.string o.aL.query,.string o.aL.method,.slice ah nh ch,.bool o.aL.fU,.string o.aL.body,.bool o.proxy,.string o.text,.string o.user,.string o.pass,.string o.bP,.int .i64 o.cert,.bool o.all,.int .i64 o.n]),(2,.agg #[.int .i64 r.what,.string r.head,.int .i64 r.cert]),(3,.int .i64 gG),(4,.int .i64 steps)]=some x.toArray:=by rw[VK.o];exact aa4 i o ah nh ch r gG steps
 refine tT 19 30 rfl (yd rfl 43 _ rfl x.toArray _ (by simp only[eC,cA,dn];rfl) YB) ?_;clear YB
 try simp only[Act.put,sA,sB,sC]
 have Ou:=O zc;have HD:=O d288;clear d288;refine wpAnyH_ready (rs:=[4,20]) af aQ ?_;refine AllReadyH.cons rfl (fun K hK=>?hA) (AllReadyH.cons rfl (fun K hK=>?hB) AllReadyH.nil)
 case' hA =>
  have d288:=HD.o;go_simp;refine hK.out _ _ Ou.o ?_;intro xz;clear hK K xz d288
  try simp only[Act.put,sA,sB,sC]
  refine eL 20 rfl fun K hK=>?_;have zU:Instr.fill (fun i=>some (i*28,28)) ((Array.range (1*28)).map ((Value.agg xb).cells[· %(Value.agg xb).cells.size]!)) [(0,.agg x.toArray)]=some x.toArray:=by rw[VK.o];exact Pc i o ah nh ch r gG steps
  refine vC rfl 25 43 1 _ rfl x.toArray i0 (.agg xb) [(0,.agg x.toArray)] (by simp only[eC,cA,dn];rfl) underlying25 qD pq (by rw[kZ];decide) (by rw[kZ];decide) (by rw[kZ];exact zU) ?_;clear zU;obtain⟨x3,xU⟩:∃x3,x3=x2.drew.alloc (.cells x.toArray 43):=⟨_,rfl⟩;have Fm:Fr aR x2.drew x3:=by rw[xU];exact(ae aR _).alloc _
  have afH:x3.heap.size=R+3:=by rw[xU];simp[HXD.o]
  have hN3:∀j u,x[j]?=some u->x3.cell? ((⟨R+2,0,none⟩:Addr).add j)=some u:=by
   rw[xU, <-HXD.o];exact kQ _ x _
  have HO3:x3.ownsRow a.heap.size 43 28 (.slice asv es.length csv) es.length (es.map Fo).flatten:=by rw[xU];exact World.ownsRow.alloc acQ.o _
  have FP:(x3).rangeAt T (17+i*45+1) [.int .i64 o.what,.int .i64 o.aL.part,.bool o.aL.dm.aF,.string o.aL.dm.host,.int .i64 o.aL.dm.port,.bool o.aL.o.aF,.string o.aL.o.host,.int .i64 o.aL.o.port,.string o.aL.path,.string o.aL.query,.string o.aL.method,.slice ah nh ch,.bool o.aL.fU,.string o.aL.body,.bool o.proxy,.string o.text,.string o.user,.string o.pass,.string o.bP,.int .i64 o.cert,.bool o.all,.int .i64 o.n]/\(x3).rangeAt R 0 [.int .i64 r.what,.string r.head,.int .i64 r.cert]/\(x3).cell? ⟨T,17+i*45+24,none⟩=some (.int .i64 gG)/\(x3).cell? ⟨T,287,none⟩=some (.int .i64 steps):=(⟨p_ Ou.o.1 Fm id,p_ Ou.o.2.1 Fm id,nZ Ou.o.2.2.1 Fm id,nZ Ou.o.2.2.2 Fm id⟩)
  have d288:=nZ HD.o Fm id;rw[<-xU,HXD.o];refine hK.out _ _ FP ?_;clear hK K xU;intro Am
 case' hB =>
  have zU:Instr.fill (fun i=>some (i*28,28)) ((Array.range (1*28)).map ((Value.agg xb).cells[· %(Value.agg xb).cells.size]!)) [(0,.agg x.toArray)]=some x.toArray:=by rw[VK.o];exact Pc i o ah nh ch r gG steps
  refine vC rfl 25 43 1 _ rfl x.toArray i0 (.agg xb) [(0,.agg x.toArray)] (by simp only[eC,cA,dn];rfl) underlying25 qD pq (by rw[kZ];decide) (by rw[kZ];decide) (by rw[kZ];exact zU) ?_;clear zU;obtain⟨x3,xU⟩:∃x3,x3=x2.drew.alloc (.cells x.toArray 43):=⟨_,rfl⟩;have Fm:Fr aR x2.drew x3:=by rw[xU];exact(ae aR _).alloc _
  have afH:x3.heap.size=R+3:=by rw[xU];simp[HXD.o]
  have hN3:∀j u,x[j]?=some u->x3.cell? ((⟨R+2,0,none⟩:Addr).add j)=some u:=by
   rw[xU, <-HXD.o];exact kQ _ x _
  have HO3:x3.ownsRow a.heap.size 43 28 (.slice asv es.length csv) es.length (es.map Fo).flatten:=by rw[xU];exact World.ownsRow.alloc acQ.o _
  have FP:(x3).rangeAt T (17+i*45+1) [.int .i64 o.what,.int .i64 o.aL.part,.bool o.aL.dm.aF,.string o.aL.dm.host,.int .i64 o.aL.dm.port,.bool o.aL.o.aF,.string o.aL.o.host,.int .i64 o.aL.o.port,.string o.aL.path,.string o.aL.query,.string o.aL.method,.slice ah nh ch,.bool o.aL.fU,.string o.aL.body,.bool o.proxy,.string o.text,.string o.user,.string o.pass,.string o.bP,.int .i64 o.cert,.bool o.all,.int .i64 o.n]/\(x3).rangeAt R 0 [.int .i64 r.what,.string r.head,.int .i64 r.cert]/\(x3).cell? ⟨T,17+i*45+24,none⟩=some (.int .i64 gG)/\(x3).cell? ⟨T,287,none⟩=some (.int .i64 steps):=(⟨p_ Ou.o.1 Fm id,p_ Ou.o.2.1 Fm id,nZ Ou.o.2.2.1 Fm id,nZ Ou.o.2.2.2 Fm id⟩)
  have d288:=nZ HD.o Fm id;rw[<-xU,HXD.o];refine hK.out _ _ FP ?_;clear hK K xU;intro Am
  try simp only[Act.put,sA,sB,sC]
  refine eL 4 rfl fun K hK=>?_;go_simp;refine hK.out _ _ FP ?_;intro Bv;clear hK K Bv
 all_goals
  try simp only[Act.put,sA,sB,sC]
  clear zc;refine eL 21 rfl fun K hK=>?_;refine step_append_lies (w:=x3) rfl (.tmp 15) (.tmp 31) 25 rfl a.heap.size 43 i0 _ 28 328 underlying25 qD pq kZ lq rfl ab (.slice asv es.length csv) es.length _ rfl HO3 ⟨R+2,0,none⟩ 1 1 x rfl (by rw[HXL.o]) hN3 M4.o ab fq ab ab (R+3) afH ?_;intro gg cap w4 eY jC dN Ls
  have jV:Fr (own (.slice asv es.length csv)) x2.drew w4:=fk (Fm.mono (fun _ _ h=>absurd h id)) jC (fun _ hk _=>hk);have hm:=acP.o w4 (.slice (some ⟨gg,0,none⟩) (es.length+1) cap) r jV (by
   refine⟨fun y hy=>?_,?_⟩
   ·rcases bK.1 hy with hy|hy
    ·exact HES.o y hy
    ·rcases cE.1 hy with rfl
     rw[QB.o, <-VK.o];exact⟨HXL.o,M4.o⟩
   ·rw[QB.o, <-VK.o,aM,ai,ed];simpa using eY)
  obtain⟨m1,m2,m3,m4,m5⟩:=hm;have HM5:=O ((eG fO.o).trans m5);have HM2:=O m2;have TE:=O m3;have HM4:=O m4;have nR:=afG.o R _ _ HK7.o ag;have nT:(Value.slice asv es.length csv).ownBlock≠some T:=by
   obtain⟨bt,YB,_⟩:=HBT.o;exact afG.o T _ _ YB ag
  have n7:=jV.keep HK7.o nR;have n8:=jV.keep HK8.o (afG.o _ _ _ HK8.o ag);have aqm:=m1.st;have f288:=m1.free 288
  have Bv:(w4).rangeAt T (17+i*45+1) [.int .i64 o.what,.int .i64 o.aL.part,.bool o.aL.dm.aF,.string o.aL.dm.host,.int .i64 o.aL.dm.port,.bool o.aL.o.aF,.string o.aL.o.host,.int .i64 o.aL.o.port,.string o.aL.path,.string o.aL.query,.string o.aL.method,.slice ah nh ch,.bool o.aL.fU,.string o.aL.body,.bool o.proxy,.string o.text,.string o.user,.string o.pass,.string o.bP,.int .i64 o.cert,.bool o.all,.int .i64 o.n]/\(w4).rangeAt R 0 [.int .i64 r.what,.string r.head,.int .i64 r.cert]/\(w4).cell? ⟨T,17+i*45+24,none⟩=some (.int .i64 gG)/\(w4).cell? ⟨T,287,none⟩=some (.int .i64 steps):=(⟨p_ Ou.o.1 jV nT,p_ Ou.o.2.1 jV nR,nZ Ou.o.2.2.1 jV nT,nZ Ou.o.2.2.2 jV nT⟩)
  have ZS:=O m1;refine hK.out _ _ Bv ?_;intro hS5;clear hK K m1 m2 m3 m4 m5 eY jC dN Ls HO3 hN3 FP d288
  try simp only[Act.put,sA,sB,sC]
  refine tkN 22 33 rfl ?_
  refine tkN 23 34 rfl ?_
  refine eL 24 rfl fun K hK=>?_;go_simp;have hFT:Fr (one T) w4 (w4.setCell ⟨T,288,none⟩ (.slice (some ⟨gg,0,none⟩) (es.length+1) cap)):=(ae (one T) _).setCell (p:=⟨T,288,none⟩) (fun _=>rfl) _;have hRT:R≠T:=ab
  have hS6:(w4.setCell ⟨T,288,none⟩ (.slice (some ⟨gg,0,none⟩) (es.length+1) cap)).rangeAt T (17+i*45+1) [.int .i64 o.what,.int .i64 o.aL.part,.bool o.aL.dm.aF,.string o.aL.dm.host,.int .i64 o.aL.dm.port,.bool o.aL.o.aF,.string o.aL.o.host,.int .i64 o.aL.o.port,.string o.aL.path,.string o.aL.query,.string o.aL.method,.slice ah nh ch,.bool o.aL.fU,.string o.aL.body,.bool o.proxy,.string o.text,.string o.user,.string o.pass,.string o.bP,.int .i64 o.cert,.bool o.all,.int .i64 o.n]/\(w4.setCell ⟨T,288,none⟩ (.slice (some ⟨gg,0,none⟩) (es.length+1) cap)).rangeAt R 0 [.int .i64 r.what,.string r.head,.int .i64 r.cert]/\(w4.setCell ⟨T,288,none⟩ (.slice (some ⟨gg,0,none⟩) (es.length+1) cap)).cell? ⟨T,17+i*45+24,none⟩=some (.int .i64 gG)/\(w4.setCell ⟨T,288,none⟩ (.slice (some ⟨gg,0,none⟩) (es.length+1) cap)).cell? ⟨T,287,none⟩=some (.int .i64 steps):=(⟨yV Bv.1 bG,p_ Bv.2.1 hFT (fun e=>hRT e),eT (vs:=[_]) Bv.2.2.1 (Or.inl ab),eT (vs:=[_]) Bv.2.2.2 (Or.inl ab)⟩)
  refine hK.out _ _ hS6 ?_;intro hS7;clear hK K hS7 hS5;refine wpAnyH_done af ?_ _;have p7:=hFT.keep n7 (fun e=>hRT e);have p8:=hFT.keep n8 (fun e=>by have e':R+1=T:=e;omega);have HP7:=O (((HM4.o).keep n7 (fun e=>hRT e)));have HP8:=O (((HM4.o).keep n8 (fun e=>by have e':R+1=T:=e;omega)));clear Bv hS6 n7 n8 aqm f288 jV Fm afH
  generalize w4.setCell ⟨T,288,none⟩ (.slice (some ⟨gg,0,none⟩) (es.length+1) cap)=W5 at *
  go_wp2_with (first|((with_reducible refine cV 72 ?_);refine iq rfl 72 _ _ rfl T (17+i*45) (mX fe zeroV).toArray rfl rfl TE.o rfl (Aw _ _ rfl rfl) ?_)|((with_reducible refine cY 38 ?_);refine aH rfl 30 (.tmp 7) rfl R rfl _ #[.int .i64 r.what,.string r.head,.int .i64 r.cert] (0,0) _ HP7.o underlying30 rfl (bd _ rfl) ?_)|((with_reducible refine cV 30 ?_);refine aE rfl 30 (.tmp 8) (.tmp 38) rfl (R+1) #[.int .i64 r.what,.string r.head,.int .i64 r.cert] rfl rfl _ bR HP8.o (bd _ rfl) rfl ct ?_)|fail)
  refine aS (ju bC _ _ (R+1) 30 #[.int .i64 r.what,.string r.head,.int .i64 r.cert] (0,0) _ rfl (aX _ (R+1) _ _ _ _ HP8.o) underlying30 rfl (bd _ rfl)) rfl ?_;exact⟨rfl,cW.far HM2.o ((ae (one (R+1)) _).setRow (fun _=>rfl) _) (fun n hn=>by have e':n=R+1:=hn;omega) (fun n hn=>by cases(show n=R+1 from hn);exact⟨_,_,HP8.o,Jp⟩),HM5.o.new ((ae (one (R+1)) _).setRow (fun _=>rfl) _) HRU.o⟩
end
