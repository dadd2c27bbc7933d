/- Lemmas for the law's walk. -/
import Derived.Test.YtnckmcnffadjoaaGreatDoorPk21
import Derived.Test.YtnckmcnffadjoaaGreatDoorTie
import Derived.Test.YtnckmcnffadjoaaGreatDoorCards
import Derived.LaidMore
import Derived.Lay
set_option maxRecDepth 100000
set_option maxHeartbeats 16000000
set_option linter.unusedSimpArgs false
namespace Go.Proofs.YtnckmcnffadjoaaGreatDoor
open Go.Proofs.Tryz
open Go.RowKit
variable {base yo B B' C:Nat} {w:World} {v:Value} {gs:List (aQ bE)} {pv zh:Nat->cY} {x y:dD}
theorem Cv(v v':Value)(ss:List aj)(w:World)(h:fT w v ss)(h':fT w v' ss)(hl:ss.length<=9223372036854775807) :
  aB 148 #[v,v'] w fun e w'=>e=.returned (.bool true)/\Fr aS w w':=by
 rcases h with ⟨a,c,rfl,rfl,_⟩|⟨bk,o,c,rfl,h1,h2,h3,h4⟩
 ·obtain⟨a',c',rfl⟩:=h'.form;refine(slices_Equal_string_empty a a' c 0 c' w ab).mono ?_;rintro e w'⟨rfl,rfl⟩;exact⟨rfl,ae _ _⟩
 ·rcases h' with ⟨a',c',rfl,rfl,_⟩|⟨I8,o',c',rfl,I_,h2',h3',h4'⟩
  ·refine(slices_Equal_string_empty (some ⟨bk,o,none⟩) a' c 0 c' w ab).mono ?_;rintro e w'⟨rfl,rfl⟩;exact⟨rfl,ae _ _⟩
  ·refine(slices_Equal_string bk o ss.length c I8 o' ss.length c' ss ss w (ay _) (ay _) hl hl (fun j hj=>h4 j _ (by simp[List.getD,hj])) (fun j hj=>h4' j _ (by simp[List.getD,hj]))).mono ?_;rintro e w'⟨rfl,q,rfl⟩;exact⟨aR,dG _ (ae _ _)⟩
theorem F_(u p:aj)(w:World):(binOp .eql 39 (.agg #[.string u,.string p]) (.agg #[.string u,.string p])).run prog w=.ok (.bool true) w:=by
 go_simp
theorem AW(r r':fQ Value)(a:fQ bE)(w:World)(h:r.Reads (fT w) a)(h':r'.Reads (fT w) a)(hl:a.dom.length<=9223372036854775807) :
  aB 74 #[.agg r.cells.toArray,.agg r'.cells.toArray] w fun e w'=>e=.returned (.bool true)/\Fr aS w w':=by
 obtain⟨e1,e2,e3,e4,e5,e6,e7,hd⟩:=h;obtain⟨f1,f2,f3,f4,f5,f6,f7,tZ⟩:=h';obtain⟨ad,cd,yc⟩:=hd.form;obtain⟨TD,TE,PF⟩:=tZ.form;unfold fQ.cells;rw[e1,e2,e3,e4,e5,e6,e7,f1,f2,f3,f4,f5,f6,f7,yc,PF];rw[yc]at hd;rw[PF]at tZ
 have hf:Fr aS w _:=((ae aS w).alloc (.cells #[.int .i64 a.scheme,.string a.aM,.string a.bu,.string a.cz,.bool a.cD,.string a.eJ,.bool a.cR,.slice ad a.dom.length cd] 112)).alloc (.cells #[.int .i64 a.scheme,.string a.aM,.string a.bu,.string a.cz,.bool a.cD,.string a.eJ,.bool a.cR,.slice TD a.dom.length TE] 112);have EQ:=O (Cv _ _ _ _ (hd.fN hf) (tZ.fN hf) hl)
 clear e1 e2 e3 e4 e5 e6 e7 f1 f2 f3 f4 f5 f6 f7 yc PF hd tZ;go_enter func74,ntmps74;go_wp2_with fail
 refine EQ.o.mono ?_;rintro e w1⟨rfl,dk⟩;go_wp2;go_ret;exact⟨rfl,hf.trans dk⟩
theorem Fm(r r':aQ Value)(g:aQ bE)(w:World)(h:r.Reads (fT w) g)(h':r'.Reads (fT w) g)(hl:g.a.dom.length<=9223372036854775807)(zk:g.paths.length<=9223372036854775807) :
  aB 76 #[.agg r.cells.toArray,.agg r'.cells.toArray] w fun e w'=>e=.returned (.bool true)/\Fr aS w w':=by
 obtain⟨e1,e2,e3,e4,e5,e6,hd⟩:=h;obtain⟨f1,f2,f3,f4,f5,f6,tZ⟩:=h';obtain⟨ad,cd,yc⟩:=hd.form;obtain⟨TD,TE,PF⟩:=tZ.form;obtain⟨am,cm,hm⟩:=e5.2.2.2.2.2.2.2.form;obtain⟨am',cm',CA⟩:=f5.2.2.2.2.2.2.2.form
 have hr:r.cells=[.bool g.o.aG,.string g.o.host,.int .i64 g.o.port,.bool g.proxy,.string g.user,.string g.pass,.int .i64 g.a.scheme,.string g.a.aM,.string g.a.bu,.string g.a.cz,.bool g.a.cD,.string g.a.eJ,.bool g.a.cR,.slice am g.a.dom.length cm,.int .i64 g.count,.slice ad g.paths.length cd]:=by
  unfold aQ.cells;rw[e1,e2,e3,e4,e5.1,e5.2.1,e5.2.2.1,e5.2.2.2.1,e5.2.2.2.2.1,e5.2.2.2.2.2.1,e5.2.2.2.2.2.2.1,hm,e6,yc]
 have Xp:r'.cells=[.bool g.o.aG,.string g.o.host,.int .i64 g.o.port,.bool g.proxy,.string g.user,.string g.pass,.int .i64 g.a.scheme,.string g.a.aM,.string g.a.bu,.string g.a.cz,.bool g.a.cD,.string g.a.eJ,.bool g.a.cR,.slice am' g.a.dom.length cm',.int .i64 g.count,.slice TD g.paths.length TE]:=by
  unfold aQ.cells;rw[f1,f2,f3,f4,f5.1,f5.2.1,f5.2.2.1,f5.2.2.2.1,f5.2.2.2.2.1,f5.2.2.2.2.2.1,f5.2.2.2.2.2.2.1,CA,f6,PF]
 have hra:r.a.cells=[.int .i64 g.a.scheme,.string g.a.aM,.string g.a.bu,.string g.a.cz,.bool g.a.cD,.string g.a.eJ,.bool g.a.cR,.slice am g.a.dom.length cm]:=by
  unfold fQ.cells;rw[e5.1,e5.2.1,e5.2.2.1,e5.2.2.2.1,e5.2.2.2.2.1,e5.2.2.2.2.2.1,e5.2.2.2.2.2.2.1,hm]
 have alq:r'.a.cells=[.int .i64 g.a.scheme,.string g.a.aM,.string g.a.bu,.string g.a.cz,.bool g.a.cD,.string g.a.eJ,.bool g.a.cR,.slice am' g.a.dom.length cm']:=by
  unfold fQ.cells;rw[f5.1,f5.2.1,f5.2.2.1,f5.2.2.2.1,f5.2.2.2.2.1,f5.2.2.2.2.2.1,f5.2.2.2.2.2.2.1,CA]
 rw[hr,Xp];rw[yc]at hd;rw[PF]at tZ
 have hf:Fr aS w _:=((ae aS w).alloc (.cells #[.bool g.o.aG,.string g.o.host,.int .i64 g.o.port,.bool g.proxy,.string g.user,.string g.pass,.int .i64 g.a.scheme,.string g.a.aM,.string g.a.bu,.string g.a.cz,.bool g.a.cD,.string g.a.eJ,.bool g.a.cR,.slice am g.a.dom.length cm,.int .i64 g.count,.slice ad g.paths.length cd] 114)).alloc (.cells #[.bool g.o.aG,.string g.o.host,.int .i64 g.o.port,.bool g.proxy,.string g.user,.string g.pass,.int .i64 g.a.scheme,.string g.a.aM,.string g.a.bu,.string g.a.cz,.bool g.a.cD,.string g.a.eJ,.bool g.a.cR,.slice am' g.a.dom.length cm',.int .i64 g.count,.slice TD g.paths.length TE] 114)
 have SA:=O (AW r.a r'.a g.a _ (e5.mono (fun _ _ h=>h.fN hf)) (f5.mono (fun _ _ h=>h.fN hf)) hl);rw[hra,alq]at SA;have hpa:=O (hd.fN hf);have agl:=O (tZ.fN hf);have Ng:gG.lz g.o g.o=true:=(gG.xp _ _).2 rfl;have hne:=jG g.o g.o;rw[Ng]at hne;have hce:=F_ g.user g.pass;clear e1 e2 e3 e4 e5 e6 f1 f2 f3 f4 f5 f6 yc PF hd tZ hm CA hr Xp hra alq Ng
 obtain⟨x,hx⟩:∃x:bT,x= #[.bool g.o.aG,.string g.o.host,.int .i64 g.o.port,.bool g.proxy,.string g.user,.string g.pass,.int .i64 g.a.scheme,.string g.a.aM,.string g.a.bu,.string g.a.cz,.bool g.a.cD,.string g.a.eJ,.bool g.a.cR,.slice am g.a.dom.length cm,.int .i64 g.count,.slice ad g.paths.length cd]:=⟨_,rfl⟩
 obtain⟨y,hy⟩:∃y:bT,y= #[.bool g.o.aG,.string g.o.host,.int .i64 g.o.port,.bool g.proxy,.string g.user,.string g.pass,.int .i64 g.a.scheme,.string g.a.aM,.string g.a.bu,.string g.a.cz,.bool g.a.cD,.string g.a.eJ,.bool g.a.cR,.slice am' g.a.dom.length cm',.int .i64 g.count,.slice TD g.paths.length TE]:=⟨_,rfl⟩
 have J3:((w.alloc (.cells x 114)).alloc (.cells y 114)).heap[w.heap.size]?=some (.cells x 114 (0,0)):=by
  rw[Below.heap_alloc _ _ _ aR];exact aC w _
 have qw:((w.alloc (.cells x 114)).alloc (.cells y 114)).heap[w.heap.size+1]?=some (.cells y 114 (0,0)):=by
  have:=aC (w.alloc (.cells x 114)) (.cells y 114);simpa using this
 have x14:x[14]?=some (.int .i64 g.count):=by rw[hx];rfl
 have x15:x[15]?=some (.slice ad g.paths.length cd):=by rw[hx];rfl
 have y14:y[14]?=some (.int .i64 g.count):=by rw[hy];rfl
 have y15:y[15]?=some (.slice TD g.paths.length TE):=by rw[hy];rfl
 have X:=O (And.intro x14 x15);have Y:=O (And.intro y14 y15);have HB:=O (And.intro J3 qw);have HX:=O hx;have HY:=O hy;clear x14 x15 y14 y15 J3 qw hx hy;go_enter func76,ntmps76;go_wp2_with fail
 refine SA.o.mono ?_;rintro e w1⟨rfl,dk⟩;clear SA;rw[<-HX.o, <-HY.o]at hf dk hpa agl;have J3:=dk.keep HB.o.1 id;have qw:=dk.keep HB.o.2 id;have c14:w1.cell? ⟨w.heap.size,14,none⟩=some (.int .i64 g.count):=by simp only[World.cell?,J3];simpa using X.o.1
 have c15:w1.cell? ⟨w.heap.size,15,none⟩=some (.slice ad g.paths.length cd):=by simp only[World.cell?,J3];simpa using X.o.2
 have d14:w1.cell? ⟨w.heap.size+1,14,none⟩=some (.int .i64 g.count):=by simp only[World.cell?,qw];simpa using Y.o.1
 have d15:w1.cell? ⟨w.heap.size+1,15,none⟩=some (.slice TD g.paths.length TE):=by simp only[World.cell?,qw];simpa using Y.o.2
 have EQ:=O (Cv _ _ _ w1 (hpa.o.fN dk) (agl.o.fN dk) zk);have HF:=O (hf.trans dk);clear J3 qw hf dk hpa agl HB X Y HX HY hne hce;go_wp2_with fail
 refine EQ.o.mono ?_;rintro e w2⟨rfl,dE⟩;go_wp2;go_ret;exact⟨rfl,HF.o.trans dE⟩
def alr(w:World)(n:Nat)(i:Value)(wr:World):Prop:=∃k:Nat,k<=n/\i=.int .i64 k/\Fr aS w wr
theorem M6(v v':Value)(rs rs':List (aQ Value))(gs:List (aQ bE))(w:World)(hv:dZ 16 w v (rs.map aQ.cells))(sL:dZ 16 w v' (rs'.map aQ.cells))(hb:lq (aQ.Reads (fT w)) rs gs)(hb':lq (aQ.Reads (fT w)) rs' gs)
  (hl:∀g∈gs,g.a.dom.length<=9223372036854775807/\g.paths.length<=9223372036854775807) :
  aB 75 #[v,v',.func (.func 76) #[] #[]] w fun e w'=>e=.returned (.bool true)/\Fr aS w w':=by
 have hn:=hb.len;have RZ:=hb'.len;obtain⟨av,cv,fO⟩:=hv.form;obtain⟨av',YL,X5⟩:=sL.form;rw[ai,hn]at fO;rw[ai,RZ]at X5;subst fO X5;go_enter func75,ntmps75;go_wp2;go_loopw[17] (alr w gs.length) (fun i _=>gs.length-(intOf i).toNat)
 case atStart=>exact⟨0,aL _,rfl,ae _ _⟩
 case round =>
  obtain⟨k,hk,rfl,cP⟩:=hrel;by_cases fe:k<gs.length
  ·obtain⟨r,zj⟩:∃r,rs[k]?=some r:=⟨_,List.getElem?_eq_getElem ab⟩;obtain⟨r',abC⟩:∃r,rs'[k]?=some r:=⟨_,List.getElem?_eq_getElem ab⟩;obtain⟨g,hg,hr⟩:=hb.get zj;obtain⟨g',YA,Xp⟩:=hb'.get abC;rw[hg]at YA;cases YA;obtain⟨hl1,zk⟩:=hl g (bQ hg);have ef:=(hv.1 _ (bZ.2 ⟨r,bQ zj,rfl⟩)).2;have adg:=(sL.1 _ (bZ.2 ⟨r',bQ abC,rfl⟩)).2;rcases(hv.fN cP).2 with ⟨_,_,_,e,_⟩|⟨bk,o,c,e1,q1,q2,q3,q4⟩
   ·simp at e;rw[e]at hn;simp at hn;omega
   rcases(sL.fN cP).2 with ⟨_,_,_,e,_⟩|⟨I8,o',c',e1',q1',q2',q3',q4'⟩
   ·simp at e;rw[e]at RZ;simp at RZ;omega
   rw[ai,hn]at e1 q1;rw[ai,RZ]at e1' q1';cases e1;cases e1';unfold maxLen at q2 q2';have hcell:=q4 k r.cells (by rw[List.getElem?_map,zj];rfl);have JS:=q4' k r'.cells (by rw[List.getElem?_map,abC];rfl);obtain⟨x,hx⟩:∃x,x=r.cells:=⟨_,rfl⟩;obtain⟨y,hy⟩:∃y,y=r'.cells:=⟨_,rfl⟩;have lM:x.length=16:=by rw[hx];rfl
   have Du:y.length=16:=by rw[hy];rfl
   have jx:=fun W=>run_storeCells_new (P:=prog) W 114 eY x (by rw[lM];rfl) (by rw[hx];exact ef);have alu:=run_storeCells_new (P:=prog) (wr.alloc (.cells x.toArray 114)) 114 eY y (by rw[Du];rfl) (by rw[hy];exact adg);rw[show(wr.alloc (.cells x.toArray 114)).heap.size=wr.heap.size+1 from aR]at alu;rw[<-hx]at hcell;rw[<-hy]at JS
   have agm:∀(i:Nat) u,y[i]?=some u->(wr.alloc (.cells x.toArray 114)).cell? ⟨I8,o'+k*16+i,none⟩=some u:=fun i u hu=>by
    have:=JS i u hu;rw[<-this];exact((ae aS wr).alloc _).cell (p:=⟨I8,o'+k*16+i,none⟩) q3' id
   have dE:Fr aS wr ((wr.alloc (.cells x.toArray 114)).alloc (.cells y.toArray 114)):=((ae aS wr).alloc _).alloc _;have J3:((wr.alloc (.cells x.toArray 114)).alloc (.cells y.toArray 114)).heap[wr.heap.size]?=some (.cells x.toArray 114 (0,0)):=by
    rw[Below.heap_alloc _ _ _ aR];exact aC wr _
   have qw:((wr.alloc (.cells x.toArray 114)).alloc (.cells y.toArray 114)).heap[wr.heap.size+1]?=some (.cells y.toArray 114 (0,0)):=by
    have:=aC (wr.alloc (.cells x.toArray 114)) (.cells y.toArray 114);simpa using this
   have SG:=O (Fm r r' g _ (hr.mono (fun _ _ h=>(h.fN cP).fN dE)) (Xp.mono (fun _ _ h=>(h.fN cP).fN dE)) hl1 zk);rw[<-hx, <-hy]at SG;have HB:=O (And.intro J3 qw);have HF:=O (cP.trans dE);have Ed:(prog.info? 114).map (·.size)=some x.length:=by rw[lM];kernel_rfl
   have hyi:(prog.info? 114).map (·.size)=some y.length:=by rw[Du];kernel_rfl
   have I9:=O Ed;have HYI:=O hyi;clear hx hy J3 qw ef adg hr Xp hg zj abC q4 q4' JS Ed hyi hl1 zk dE
   go_wp2_with (first|((with_reducible refine dr 21 ?_);refine aY rfl 114 (.tmp 20) rfl bk (o+k*16) rfl x _ hcell underlying114 rfl I9.o ?_)|((with_reducible refine dr 25 ?_);refine aY rfl 114 (.tmp 24) rfl I8 (o'+k*16) rfl y _ agm underlying114 rfl HYI.o ?_)|((with_reducible refine dr 27 ?_);refine aI rfl 114 (.tmp 8) rfl wr.heap.size rfl _ x.toArray (0,0) _ HB.o.1 underlying114 rfl (by rw[aX];exact I9.o) ?_)|((with_reducible refine dr 28 ?_);refine aI rfl 114 (.tmp 9) rfl (wr.heap.size+1) rfl _ y.toArray (0,0) _ HB.o.2 underlying114 rfl (by rw[aX];exact HYI.o) ?_)|fail)
   clear jx alu;refine SG.o.mono ?_;rintro e w3⟨rfl,iz⟩;have il:=O (HF.o.trans iz);go_wp2;go_roundw
   case rel=>exact⟨k+1,ab,bg,il.o⟩
   case measure=>simp[intOf];omega
  ·go_wp2;go_ret;exact⟨rfl,cP⟩
theorem gy.rows(h:gy base w v gs):∃rs:List (aQ Value),dZ 16 w v (rs.map aQ.cells)/\lq (aQ.Reads (fT w)) rs gs/\∀g∈gs,g.a.dom.length<=9223372036854775807/\g.paths.length<=9223372036854775807:=by
 obtain⟨rs,h1,h2⟩:=h;refine⟨rs,h1.at,h2.mono (fun _ _ h=>h.mono (fun _ _ h=>h.rd)),fun g hg=>?_⟩;obtain⟨k,hk⟩:=List.getElem?_of_mem hg;obtain⟨r,hr⟩:∃r,rs[k]?=some r:=⟨_,List.getElem?_eq_getElem (by rw[h2.len];exact(List.getElem?_eq_some_iff.1 hk).1)⟩;obtain⟨g',YA,Hn⟩:=h2.get hr;rw[hk]at YA;cases YA;have:=Hn.2.2.2.2.2.2.sZ;have:=Hn.2.2.2.2.1.2.2.2.2.2.2.2.sZ;omega
theorem TF{v':Value}(h:gy base w v gs)(h':gy yo w v' gs) :
  aB 75 #[v,v',.func (.func 76) #[] #[]] w fun e w'=>e=.returned (.bool true)/\Fr aS w w':=by
 obtain⟨rs,h1,h2,h3⟩:=h.rows;obtain⟨rs',I_,h2',_⟩:=h'.rows;exact M6 v v' rs rs' gs w h1 I_ h2 h2' h3
theorem M7(p:ez)(w:World):(binOp .neq 155 (.agg p.cells.toArray) (.agg p.cells.toArray)).run prog w=.ok (.bool false) w:=by
 unfold ez.cells;go_simp
def agn(w:World)(n:Nat)(i:Value)(wr:World):Prop:=∃k:Nat,k<=n/\i=.int .i64 k/\Fr aS w wr
theorem JT(v v':Value)(ps:List ez)(w:World)(h:q_ w v ps)(h':q_ w v' ps) :
  aB 77 #[v,v'] w fun e w'=>e=.returned (.bool true)/\Fr aS w w':=by
 obtain⟨av,cv,hv⟩:=dU h;obtain⟨av',YL,sL⟩:=dU h';subst hv sL;rw[ai]at h h' ⊢;have HL:=O (fun U (hU:Fr aS w U)=>bh h hU);have HL':=O (fun U (hU:Fr aS w U)=>bh h' hU);have HQ:=O (M7);clear h h';go_enter func77,ntmps77;go_wp2;go_loopw[13] (agn w ps.length) (fun i _=>ps.length-(intOf i).toNat)
 case atStart=>exact⟨0,aL _,rfl,ae _ _⟩
 case round =>
  obtain⟨k,hk,rfl,cP⟩:=hrel;by_cases fe:k<ps.length
  ·have pE:(k:Int)<(ps.length:Int):=ab;have OC:(0:Int)<=(k:Int):=ab;have hne:ps≠ []:=by intro e;rw[e]at fe;cases fe
   obtain⟨bk,of,rfl,g1,g2,g3,g4,g5⟩:=q_.lie (HL.o wr cP) hne;obtain⟨I8,of',rfl,g1',g2',g3',g4',g5'⟩:=q_.lie (HL'.o wr cP) hne;unfold maxLen at g3 g3';have dS:=O (List.getElem?_eq_getElem fe);generalize ps[k]=q at dS;obtain⟨c0,c1,c2,c3,c4,c5,c6,c7,c8,c9,G',T5⟩:=g5 k q dS.o;obtain⟨d0,d1,d2,d3,d4,d5,d6,d7,d8,d9,d10,d11⟩:=g5' k q dS.o;have heq:=HQ.o q;unfold ez.cells at heq;clear g1 g5 g1' g5';go_wp2
   go_quiet (fail);go_wp2;go_roundw
   case rel=>exact⟨k+1,ab,bg,cP.drewN _⟩
   case measure=>simp[intOf];omega
  ·have pE:¬(k:Int)<(ps.length:Int):=ab;go_wp2;go_ret;exact⟨rfl,cP⟩
theorem fi{U:World}{p:Addr}{u:Value}(h:w.cell? p=some u)(hf:Fr aS w U):U.cell? p=some u:=by
 unfold World.cell? at h ⊢;cases hb:w.heap[p.block]? with
 |none=>rw[hb]at h;cases h
 |some o=>rw[hb]at h;rw[hf.keep hb id];exact h
def X6(w:World)(n:Nat)(i:Value)(wr:World):Prop:=∃k:Nat,k<=n/\i=.int .i64 k/\Fr aS w wr
theorem AX(a:gG)(w:World):(binOp .neq 32 (.agg #[.bool a.aG,.string a.host,.int .i64 a.port]) (.agg #[.bool a.aG,.string a.host,.int .i64 a.port])).run prog w=.ok (.bool false) w:=by
 go_simp
theorem JU(h:cE base w B pv x)(h':cE yo w B' zh y)(Bm:yi x)(i:Nat)(h4:i<4)(hxy:y.part i=x.part i) :
  aB 37 #[.pointer (some ⟨B,0,none⟩),.pointer (some ⟨B',0,none⟩),.int .i64 i] w fun e w'=>e=.returned (.bool true)/\Fr aS w w':=by
 obtain⟨l1,l2,l3,l4⟩:=(Bm.part i).sZ;have IV:=O (Fk base w B pv x h i h4 ab);have nP:=O (fun U (hU:Fr aS w U)=>Fk yo U B' zh y (h'.dm hU) i h4 (by rw[hxy];omega));have QY:=O (fun U (hU:Fr aS w U)=>Fl base U B pv x (h.dm hU) i h4 ab);have xz:=O (fun U (hU:Fr aS w U)=>Fl yo U B' zh y (h'.dm hU) i h4 (by rw[hxy];omega));have SU:=O (fun U (hU:Fr aS w U)=>xl base U B pv x (h.dm hU) i h4 ab)
 have T3:=O (fun U (hU:Fr aS w U)=>xl yo U B' zh y (h'.dm hU) i h4 (by rw[hxy];omega));have HP1:=O (fun U (hU:Fr aS w U)=>Cu base U B pv x (h.dm hU) i h4 ab);have HP2:=O (fun U (hU:Fr aS w U)=>Cu yo U B' zh y (h'.dm hU) i h4 (by rw[hxy];omega));rw[hxy]at nP xz T3 HP2;obtain⟨gs,hgs⟩:∃gs,gs=(x.part i).bG:=⟨_,rfl⟩;obtain⟨ws,yS⟩:∃ws,ws=(x.part i).waits:=⟨_,rfl⟩
 obtain⟨ps,hps⟩:∃ps,ps=(x.part i).book:=⟨_,rfl⟩;obtain⟨cs,hcs⟩:∃cs,cs=(x.part i).dJ:=⟨_,rfl⟩;rw[<-yS]at IV nP l2;rw[<-hcs]at QY xz l4;rw[<-hgs]at SU T3;rw[<-hps]at HP1 HP2;have HL2:=O l2;have HL4:=O l4;have HE:=O (fun g:bK bE=>AX g.o);clear h h' Bm h4 hxy l1 l2 l3 l4 hgs yS hps hcs;go_enter func37,ntmps37;go_wp2_with fail
 refine IV.o.mono ?_;rintro e u1⟨v1,rfl,⟨FC,_⟩,uF⟩;have HV1:=O FC;have Ji:=O uF;clear FC uF IV;go_wp2_with fail
 refine(nP.o _ Ji.o).mono ?_;rintro e u2⟨v2,rfl,⟨hv2,_⟩,nC⟩;have HV2:=O hv2;have t_:=O (Ji.o.trans nC);have alw:=O (HV1.o.fr nC (fJ _ _) (fun _ _ h=>h));clear hv2 nC nP HV1;go_wp2_with fail
 refine(QY.o _ t_.o).mono ?_;rintro e u3⟨v3,rfl,BX,Ab⟩;have T9:=O BX.at;have YB:=O (t_.o.trans Ab);have HV1:=O (alw.o.fr Ab (fJ _ _) (fun _ _ h=>h));have ago:=O (HV2.o.fr Ab (fJ _ _) (fun _ _ h=>h));clear BX Ab QY HV2 alw;go_wp2_with fail
 refine(xz.o _ YB.o).mono ?_;rintro e u4⟨v4,rfl,PZ,C'⟩;obtain⟨a1,c1,f1⟩:=(HV1.o.fr C' (fJ _ _) (fun _ _ h=>h)).form;obtain⟨a2,c2,f2⟩:=(ago.o.fr C' (fJ _ _) (fun _ _ h=>h)).form;obtain⟨a3,c3,f3⟩:=(bh T9.o C').form;obtain⟨a4,c4,f4⟩:=PZ.at.form;rw[ai]at f3 f4;subst f1 f2 f3 f4;have Nl:=O (HV1.o.fr C' (fJ _ _) (fun _ _ h=>h));have QM:=O (ago.o.fr C' (fJ _ _) (fun _ _ h=>h));have T_:=O (bh T9.o C')
 have HX4:=O PZ.at;have HU4:=O (YB.o.trans C');clear PZ C' xz HV1 ago T9;go_wp2_with fail
 go_loopw[11] (X6 u4 ws.length) (fun i _=>ws.length-(intOf i).toNat)
 case atStart=>exact⟨0,aL _,rfl,ae _ _⟩
 case round =>
  obtain⟨k,hk,rfl,cP⟩:=hrel;have h8:=HL2.o;by_cases fe:k<ws.length
  ·have pE:(k:Int)<(ws.length:Int):=ab;have OC:(0:Int)<=(k:Int):=ab;obtain⟨ba,ca,e1,m1,r1,o1,q1,g1⟩:=(Nl.o.fr cP (fJ _ _) (fun _ _ h=>h)).at fe;obtain⟨bb,cb,e2,m2,r2,o2,q2,g2⟩:=(QM.o.fr cP (fJ _ _) (fun _ _ h=>h)).at fe;cases e1;cases e2;unfold maxLen at m1 m2;generalize ws[k]=g at q1 q2;have QA1:=O q1.2.2.2;have QA2:=O q2.2.2.2;obtain⟨p1,p2,p3,d1,d2,d3,d4,d5,d6,d7,d8⟩:=q1
   obtain⟨p1',p2',p3',d1',d2',d3',d4',d5',d6',d7',d8'⟩:=q2;obtain⟨ad,cd,zt⟩:=d8.rd.form;obtain⟨TD,TE,td⟩:=d8'.rd.form
   have x1:r1.cells=[.bool g.o.aG,.string g.o.host,.int .i64 g.o.port,.bool g.proxy,.string g.path,.int .i64 g.a.scheme,.string g.a.aM,.string g.a.bu,.string g.a.cz,.bool g.a.cD,.string g.a.eJ,.bool g.a.cR,.slice ad g.a.dom.length cd]:=by unfold bK.cells;rw[p1,p2,p3,d1,d2,d3,d4,d5,d6,d7,zt]
   have x2:r2.cells=[.bool g.o.aG,.string g.o.host,.int .i64 g.o.port,.bool g.proxy,.string g.path,.int .i64 g.a.scheme,.string g.a.aM,.string g.a.bu,.string g.a.cz,.bool g.a.cD,.string g.a.eJ,.bool g.a.cR,.slice TD g.a.dom.length TE]:=by unfold bK.cells;rw[p1',p2',p3',d1',d2',d3',d4',d5',d6',d7',td]
   have y1:r1.a.cells=[.int .i64 g.a.scheme,.string g.a.aM,.string g.a.bu,.string g.a.cz,.bool g.a.cD,.string g.a.eJ,.bool g.a.cR,.slice ad g.a.dom.length cd]:=by unfold fQ.cells;rw[d1,d2,d3,d4,d5,d6,d7,zt]
   have y2:r2.a.cells=[.int .i64 g.a.scheme,.string g.a.aM,.string g.a.bu,.string g.a.cz,.bool g.a.cD,.string g.a.eJ,.bool g.a.cR,.slice TD g.a.dom.length TE]:=by unfold fQ.cells;rw[d1',d2',d3',d4',d5',d6',d7',td]
   have hlen:g.a.dom.length<=9223372036854775807:=by have:=d8.sZ;omega
   rw[x1]at g1;rw[x2]at g2
   have HS:=O (show∀U,Fr aS wr U->(U.cell? ⟨ba,k*13,none⟩=some (.bool g.o.aG)/\U.cell? ⟨ba,k*13+1,none⟩=some (.string g.o.host)/\U.cell? ⟨ba,k*13+2,none⟩=some (.int .i64 g.o.port)/\U.cell? ⟨ba,k*13+3,none⟩=some (.bool g.proxy)/\U.cell? ⟨ba,k*13+4,none⟩=some (.string g.path)/\U.cell? ⟨ba,k*13+5,none⟩=some (.int .i64 g.a.scheme)/\U.cell? ⟨ba,k*13+6,none⟩=some (.string g.a.aM)/\U.cell? ⟨ba,k*13+7,none⟩=some (.string g.a.bu)/\U.cell? ⟨ba,k*13+8,none⟩=some (.string g.a.cz)/\U.cell? ⟨ba,k*13+9,none⟩=some (.bool g.a.cD)/\U.cell? ⟨ba,k*13+10,none⟩=some (.string g.a.eJ)/\U.cell? ⟨ba,k*13+11,none⟩=some (.bool g.a.cR)/\U.cell? ⟨ba,k*13+12,none⟩=some (.slice ad g.a.dom.length cd)/\U.cell? ⟨bb,k*13,none⟩=some (.bool g.o.aG)/\U.cell? ⟨bb,k*13+1,none⟩=some (.string g.o.host)/\U.cell? ⟨bb,k*13+2,none⟩=some (.int .i64 g.o.port)/\U.cell? ⟨bb,k*13+3,none⟩=some (.bool g.proxy)/\U.cell? ⟨bb,k*13+4,none⟩=some (.string g.path)/\U.cell? ⟨bb,k*13+5,none⟩=some (.int .i64 g.a.scheme)/\U.cell? ⟨bb,k*13+6,none⟩=some (.string g.a.aM)/\U.cell? ⟨bb,k*13+7,none⟩=some (.string g.a.bu)/\U.cell? ⟨bb,k*13+8,none⟩=some (.string g.a.cz)/\U.cell? ⟨bb,k*13+9,none⟩=some (.bool g.a.cD)/\U.cell? ⟨bb,k*13+10,none⟩=some (.string g.a.eJ)/\U.cell? ⟨bb,k*13+11,none⟩=some (.bool g.a.cR)/\U.cell? ⟨bb,k*13+12,none⟩=some (.slice TD g.a.dom.length TE))from fun U hU=>by
    refine⟨fi (g1 0 _ rfl) hU,fi (g1 1 _ rfl) hU,fi (g1 2 _ rfl) hU,fi (g1 3 _ rfl) hU,fi (g1 4 _ rfl) hU,fi (g1 5 _ rfl) hU,fi (g1 6 _ rfl) hU,fi (g1 7 _ rfl) hU,fi (g1 8 _ rfl) hU,fi (g1 9 _ rfl) hU,fi (g1 10 _ rfl) hU,fi (g1 11 _ rfl) hU,fi (g1 12 _ rfl) hU,fi (g2 0 _ rfl) hU,fi (g2 1 _ rfl) hU,fi (g2 2 _ rfl) hU,fi (g2 3 _ rfl) hU,fi (g2 4 _ rfl) hU,fi (g2 5 _ rfl) hU,fi (g2 6 _ rfl) hU,fi (g2 7 _ rfl) hU,fi (g2 8 _ rfl) hU,fi (g2 9 _ rfl) hU,fi (g2 10 _ rfl) hU,fi (g2 11 _ rfl) hU,fi (g2 12 _ rfl) hU⟩)
   have Yh:=O (show∀U,Fr aS wr U->aB 74 #[.agg #[.int .i64 g.a.scheme,.string g.a.aM,.string g.a.bu,.string g.a.cz,.bool g.a.cD,.string g.a.eJ,.bool g.a.cR,.slice ad g.a.dom.length cd],.agg #[.int .i64 g.a.scheme,.string g.a.aM,.string g.a.bu,.string g.a.cz,.bool g.a.cD,.string g.a.eJ,.bool g.a.cR,.slice TD g.a.dom.length TE]] U (fun e w'=>e=.returned (.bool true)/\Fr aS U w')from fun U hU=>by
    have h:=AW r1.a r2.a g.a U (QA1.o.mono (fun _ _ h=>(h.dm hU).rd)) (QA2.o.mono (fun _ _ h=>(h.dm hU).rd)) hlen;rw[y1,y2]at h;exact h)
   have qD:=O cP;have heq:=HE.o g;clear p1 p2 p3 d1 d2 d3 d4 d5 d6 d7 d8 p1' p2' p3' d1' d2' d3' d4' d5' d6' d7' d8' zt td x1 x2 y1 y2 hlen o1 o2 g1 g2 cP QA1 QA2;go_wp2_with fail
   go_region_held3 (fun U=>Fr aS wr U/\U.cell? ⟨ba,k*13,none⟩=some (.bool g.o.aG)/\U.cell? ⟨ba,k*13+1,none⟩=some (.string g.o.host)/\U.cell? ⟨ba,k*13+2,none⟩=some (.int .i64 g.o.port)/\U.cell? ⟨ba,k*13+3,none⟩=some (.bool g.proxy)/\U.cell? ⟨ba,k*13+4,none⟩=some (.string g.path)/\U.cell? ⟨ba,k*13+5,none⟩=some (.int .i64 g.a.scheme)/\U.cell? ⟨ba,k*13+6,none⟩=some (.string g.a.aM)/\U.cell? ⟨ba,k*13+7,none⟩=some (.string g.a.bu)/\U.cell? ⟨ba,k*13+8,none⟩=some (.string g.a.cz)/\U.cell? ⟨ba,k*13+9,none⟩=some (.bool g.a.cD)/\U.cell? ⟨ba,k*13+10,none⟩=some (.string g.a.eJ)/\U.cell? ⟨ba,k*13+11,none⟩=some (.bool g.a.cR)/\U.cell? ⟨ba,k*13+12,none⟩=some (.slice ad g.a.dom.length cd)/\U.cell? ⟨bb,k*13,none⟩=some (.bool g.o.aG)/\U.cell? ⟨bb,k*13+1,none⟩=some (.string g.o.host)/\U.cell? ⟨bb,k*13+2,none⟩=some (.int .i64 g.o.port)/\U.cell? ⟨bb,k*13+3,none⟩=some (.bool g.proxy)/\U.cell? ⟨bb,k*13+4,none⟩=some (.string g.path)/\U.cell? ⟨bb,k*13+5,none⟩=some (.int .i64 g.a.scheme)/\U.cell? ⟨bb,k*13+6,none⟩=some (.string g.a.aM)/\U.cell? ⟨bb,k*13+7,none⟩=some (.string g.a.bu)/\U.cell? ⟨bb,k*13+8,none⟩=some (.string g.a.cz)/\U.cell? ⟨bb,k*13+9,none⟩=some (.bool g.a.cD)/\U.cell? ⟨bb,k*13+10,none⟩=some (.string g.a.eJ)/\U.cell? ⟨bb,k*13+11,none⟩=some (.bool g.a.cR)/\U.cell? ⟨bb,k*13+12,none⟩=some (.slice TD g.a.dom.length TE)) ((refine(fun hU=>⟨hU,HS.o _ hU⟩) ?_;first|exact aA (ae _ _)|assumption))
    ((first
     |(go_at_call 74;refine(Yh.o _ (aA (ae _ _))).mono ?_;rintro e u6 ⟨rfl,Bq⟩;have F9:Fr aS wr u6:=(aA (ae _ _)).trans Bq)))
   go_wp2;go_roundw
   case rel=>exact⟨k+1,ab,bg,qD.o.trans F9⟩
   case measure=>simp[intOf];omega
  ·have pE:¬(k:Int)<(ws.length:Int):=ab;have HX5:=O (bh T_.o cP);have HX6:=O (bh HX4.o cP);have HU5:=O (HU4.o.trans cP);clear cP Nl QM T_ HX4 HU4 HE h8;go_wp2_with fail
   go_loopw[12] (X6 wr cs.length) (fun i _=>cs.length-(intOf i).toNat)
   case atStart=>exact⟨0,aL _,rfl,ae _ _⟩
   case round =>
    obtain⟨j,hj,rfl,jz⟩:=hrel;have h9:=HL4.o;by_cases hjs:j<cs.length
    ·have Gs:(j:Int)<(cs.length:Int):=ab;have axQ:(0:Int)<=(j:Int):=ab;rcases(bh HX5.o jz).2 with ⟨_,_,_,e,_⟩|⟨bk,of,c,hf,h1,h2,h3,h4⟩
     ·rw[List.map_eq_nil_iff]at e;rw[e]at hjs;exact absurd hjs (bV _)
     rcases(bh HX6.o jz).2 with ⟨_,_,_,e,_⟩|⟨I8,of',c',N1,I_,h2',h3',h4'⟩
     ·rw[List.map_eq_nil_iff]at e;rw[e]at hjs;exact absurd hjs (bV _)
     rw[ai]at hf N1;cases hf;cases N1;unfold maxLen at h2 h2';rw[ai]at h1 I_;have d:=h4 j (lB cs[j]) (by rw[List.getElem?_map,List.getElem?_eq_getElem hjs];rfl);have d':=h4' j (lB cs[j]) (by rw[List.getElem?_map,List.getElem?_eq_getElem hjs];rfl);generalize cs[j]=g at d d';have d0:wr.cell? ⟨bk,of+j*4,none⟩=some (.bool g.1.aG):=d 0 _ rfl
     have d1:wr.cell? ⟨bk,of+j*4+1,none⟩=some (.string g.1.host):=d 1 _ rfl;have d2:wr.cell? ⟨bk,of+j*4+2,none⟩=some (.int .i64 g.1.port):=d 2 _ rfl;have d3:wr.cell? ⟨bk,of+j*4+3,none⟩=some (.int .i64 g.2):=d 3 _ rfl;have d4:wr.cell? ⟨I8,of'+j*4,none⟩=some (.bool g.1.aG):=d' 0 _ rfl;have d5:wr.cell? ⟨I8,of'+j*4+1,none⟩=some (.string g.1.host):=d' 1 _ rfl
     have d6:wr.cell? ⟨I8,of'+j*4+2,none⟩=some (.int .i64 g.1.port):=d' 2 _ rfl;have d7:wr.cell? ⟨I8,of'+j*4+3,none⟩=some (.int .i64 g.2):=d' 3 _ rfl;have heq:=AX g.1;have qD:=O jz;clear d d' h4 h4' h1 I_ h3 h3' jz;go_wp2_with fail
     go_quiet (fail);go_wp2;go_roundw
     case rel=>exact⟨j+1,ab,bg,qD.o.drewN _⟩
     case measure=>simp[intOf];omega
    ·have Gs:¬(j:Int)<(cs.length:Int):=ab;have HU6:=O (HU5.o.trans jz);clear jz HX5 HX6 HU5 h9;go_wp2_with fail
     refine(SU.o _ HU6.o).mono ?_;rintro e u6⟨g1,rfl,⟨Ge,_⟩,hu6⟩;have HU7:=O (HU6.o.trans hu6);have HGA:=O Ge;clear hu6 Ge HU6;go_wp2_with fail
     refine(T3.o _ HU7.o).mono ?_;rintro e u7⟨g2,rfl,⟨xT,_⟩,hu7⟩;have HU8:=O (HU7.o.trans hu7);have HEQ:=O (TF (HGA.o.fr hu7 (fJ _ _) (fun _ _ h=>h)) xT);clear hu7 xT HU7 HGA;go_wp2_with fail
     refine HEQ.o.mono ?_;rintro e u8⟨rfl,hu8⟩;have HU9:=O (HU8.o.trans hu8);clear hu8 HU8 HEQ;go_wp2_with fail
     refine(HP1.o _ HU9.o).mono ?_;rintro e u9⟨p1,rfl,GQ,hu9⟩;have agp:=O (HU9.o.trans hu9);have HPA:=O GQ.at;clear hu9 GQ HU9;go_wp2_with fail
     refine(HP2.o _ agp.o).mono ?_;rintro e u10⟨p2,rfl,Dx,agq⟩;have ara:=O (agp.o.trans agq);have HEP:=O (JT p1 p2 ps _ (bh HPA.o agq) Dx.at);clear agq Dx agp HPA;go_wp2_with fail
     refine HEP.o.mono ?_;rintro e Wt⟨rfl,arb⟩;go_wp2_with fail
     go_ret;exact⟨rfl,ara.o.trans arb⟩
def agr(w:World)(i:Value)(wr:World):Prop:=∃k:Nat,k<=4/\i=.int .i64 k/\Fr aS w wr
theorem F'(h:cE base w B pv x)(h':cE yo w B' zh x)(Bm:yi x) :
  aB 15 #[.pointer (some ⟨B,0,none⟩),.pointer (some ⟨B',0,none⟩)] w fun e w'=>e=.returned (.bool true)/\Fr aS w w':=by
 have HP:=O (fun(i:Nat) (h4:i<4) U (hU:Fr aS w U)=>JU (h.dm hU) (h'.dm hU) Bm i h4 rfl);have HN1:=O (fun U (hU:Fr aS w U)=>Fh base U B pv x (h.dm hU));have HN2:=O (fun U (hU:Fr aS w U)=>Fh yo U B' zh x (h'.dm hU));clear h h' Bm;go_enter func15,ntmps15;go_wp2_with fail
 go_loopw[5] (agr w) (fun i _=>4-(intOf i).toNat)
 case atStart=>exact⟨0,ag,rfl,ae _ _⟩
 case round =>
  obtain⟨k,hk,rfl,cP⟩:=hrel;have HF:=O cP;clear cP;by_cases fe:k<4
  ·have pE:(k:Int)<4:=ab;go_wp2_with fail
   refine(HP.o k fe _ HF.o).mono ?_;rintro e u⟨rfl,hu⟩;go_wp2_with fail
   go_roundw
   case rel=>exact⟨k+1,ab,bg,HF.o.trans hu⟩
   case measure=>simp[intOf];omega
  ·have pE:¬(k:Int)<4:=ab;go_wp2_with fail
   refine(HN1.o _ HF.o).mono ?_;rintro e u⟨rfl,hu⟩;rw[hu];clear hu;go_wp2_with fail
   refine(HN2.o _ HF.o).mono ?_;rintro e u⟨rfl,hu⟩;rw[hu];clear hu;go_wp2_with fail
   go_ret;exact⟨rfl,HF.o⟩
section
variable {xw : Option (Nat × dD)} {a U U' : World} {T : Nat} {t : fB}
theorem X8(h:cE base U B pv x):∀j,lI B pv j->base<=j:=fun j hj=>(h.off j hj (h.jq hj)).1
theorem df.arc{qv:Nat->cY}(h:df none a U T t)(hf:Fr aS U U')(hc:cE a.heap.size U' C qv y)(hn:∀j,lI C qv j->U.heap.size<=j):df (some (C,y)) a U' T t:=by
 obtain⟨B,g,sv,sb,h1,h2,h3,h4⟩:=h.ex;refine⟨⟨B,g,sv,sb,h1.fr hf id,(h2.add hf (i:=7) hc hn).sub fun i p hp=>?_,h3.kept (gj hf),fun n RZ=>⟨fun hd=>((h4 n RZ).1 hd).kept (gj hf),(h4 n RZ).2⟩⟩,h.low,h.fr.trans hf⟩;unfold oL at hp ⊢;by_cases e7:i=7
 ·subst e7;rw[az rfl];simpa using hp
 ·rw[aq e7];by_cases e6:i=6
  ·rw[az e6]at hp ⊢;exact hp
  ·rw[aq e6,aq e7]at hp ⊢;exact hp
theorem df.extra{C:Nat}{y y':dD}{f:FuncId}{args:bT}{R:Ending->Prop}(h:df (some (C,y)) a U T t)
  (hc:∀pv,cE a.heap.size U C pv y->aB f args U fun e w'=>R e/\dp a.heap.size U C pv y' w') :
  aB f args U fun e w'=>R e/\df (some (C,y')) a w' T t/\Kept U w':=by
 obtain⟨B,g,sv,sb,h1,h2,h3,h4⟩:=h.ex;refine(xQ.act h2 h.fr (ay _) (i:=7) (B:=C) (x:=y) rfl hc).mono ?_;rintro e w'⟨r1,r2,r3,r4⟩;refine⟨r1,⟨⟨B,g,sv,sb,r4.eN h1,r2.sub fun i p hp=>?_,h3.kept r4,fun n hn=>⟨fun hd=>((h4 n hn).1 hd).kept r4,(h4 n hn).2⟩⟩,h.low,r3⟩,r4⟩;unfold oL at hp ⊢;by_cases e7:i=7
 ·subst e7;rw[az rfl];simpa using hp
 ·rw[aq e7];by_cases e6:i=6
  ·rw[az e6]at hp ⊢;exact hp
  ·rw[aq e6,aq e7]at hp ⊢;exact hp
theorem df.beside(h:df (some (C,y)) a U T t):∃pv,cE a.heap.size U C pv y:=by
 obtain⟨B,g,sv,sb,h1,h2,h3,h4⟩:=h.ex;exact h2.at (i:=7) (B:=C) (x:=y) rfl
theorem M8(h:df (some (C,y)) a U T t){D:Nat}{qv:Nat->cY}(hD:cE a.heap.size U D qv t.w)(hy:y=t.w)(Bm:yi t.w) :
  aB 15 #[.pointer (some ⟨C,0,none⟩),.pointer (some ⟨D,0,none⟩)] U fun e w'=>e=.returned (.bool true)/\Fr aS U w':=by
 obtain⟨pv,hw⟩:=h.beside;rw[hy]at hw;exact F' hw hD Bm
end
structure ard (u:World) (base bk o:Nat) (es:List (ua×(jO×List ig))):Prop where
 row:∀V,Kept u V->∀(j:Nat) x,es[j]?=some x->V.rangeAt bk (o+j*28) (Fy x)
 op:∀V,Kept u V->∀x∈es,jZ base V x.2 x.1.op
theorem oA.alx{u:World}{sv:Value}{l:List ua}(h:oA base u sv l):∃(es:List (ua×(jO×List ig))) (av:eO) (c:Nat),es.map (·.1)=l/\sv=.slice av es.length c/\(∀x∈es,jZ base u x.2 x.1.op)/\(es=[]\/∃bk o,av=some ⟨bk,o,none⟩/\ard u base bk o es):=by
 obtain⟨es,e1,e2,e3⟩:=h;obtain⟨av,c,hv⟩:=e2.form;rw[ai]at hv;refine⟨es,av,c,e1,hv,e3,?_⟩;rcases e2.at.2 with ⟨_,_,_,e,_⟩|⟨bk,o,c',hf, -⟩
 ·exact Or.inl (by simpa using e)
 ·rw[hv]at hf;injection hf with f1 f2 f3
  refine Or.inr ⟨bk,o,f1,fun V hV j x hx=>?_,fun V hV x hx=>(e3 x hx).kept hV⟩;have sS:j<es.length:=(List.getElem?_eq_some_iff.1 hx).1;rcases(hV.rows e2 mR.1 mR.2).at.2 with ⟨_,_,_,e,_⟩|⟨I8,o',c'',N1,g1,g2,g3,g4⟩
  ·have:es=[]:=by simpa using e
   rw[this]at sS;exact absurd sS (bV _)
  ·rw[hv,f1]at N1;injection N1 with q1 q2 q3
   injection q1 with q1
   injection q1 with q4 q5
   subst q4 q5;exact fun i v hi=>g4 j (Fy x) (by rw[List.getElem?_map,hx];rfl) i v hi
theorem X9(l:List ua)(h:∀e∈l,e.op.user.size<=5000/\e.op.pass.size<=5000/\e.op.path.size<=5000):lr (vp l):=by
 have key:∀(l:List ua) (x:dD),lr x->(∀e∈l,e.op.user.size<=5000/\e.op.pass.size<=5000/\e.op.path.size<=5000)->lr (l.foldl (fun w e=>if e.ec.what=6 then w else(iK w e.op).1) x):=by
  intro l
  induction l with
  |nil=>exact fun x hx _=>hx
  |cons e l ih =>
   intro x hx he;refine ih _ ?_ (fun y hy=>he y (bN _ hy));obtain⟨q1,q2,q3⟩:=he e (cM ..);show lr (if e.ec.what=6 then x else(iK x e.op).1);split
   ·exact hx
   ·exact hx.iK _ q1 q2 q3
 exact key l yW lr.new h
theorem M9(a c:Int)(s:aj)(w:World):(binOp .neq 30 (.agg #[.int .i64 a,.string s,.int .i64 c]) (.agg #[.int .i64 a,.string s,.int .i64 c])).run prog w=.ok (.bool false) w:=by
 go_simp
theorem abD:∃W1 W2 W3:dD,iK yW (FX 2)=(W1,⟨3,⟨#[]⟩,0⟩)/\iK W1 (FX 3)=(W2,⟨1,⟨#[]⟩,0⟩)/\iK W2 (FX 1)=(W3,⟨1,⟨#[66,97,115,105,99,32,100,84,112,119]⟩,0⟩)/\(W3.part 0).bG.length=1/\lr W1/\lr W2 :=
 ⟨QK,QL,acB,Prod.ext rfl aoW,Prod.ext rfl aoX,Prod.ext rfl aoY,aoZ,acC,ajm⟩
def PG(n:Int):jO:=⟨n,⟨0,uw,uw,⟨#[47]⟩,⟨#[]⟩,⟨#[71,69,84]⟩,.slice none 0 0,false,⟨#[]⟩⟩,false,⟨#[66,97,115,105,99,32,114,101,97,108,109,61,114]⟩,⟨#[117]⟩,⟨#[112]⟩,⟨#[]⟩,0,false,0⟩
theorem PH(n:Int):(PG n).dW []=FX n:=rfl
def vZ(n:Int):bT:= #[.int .i64 n,.int .i64 0,.bool true,.string ⟨#[97,46,116,101,115,116]⟩,.int .i64 443,.bool true,.string ⟨#[97,46,116,101,115,116]⟩,.int .i64 443,.string ⟨#[47]⟩,.string ⟨#[]⟩,.string ⟨#[71,69,84]⟩,.slice none 0 0,.bool false,.string ⟨#[]⟩,.bool false,.string ⟨#[66,97,115,105,99,32,114,101,97,108,109,61,114]⟩,.string ⟨#[117]⟩,.string ⟨#[112]⟩,.string ⟨#[]⟩,.int .i64 0,.bool false,.int .i64 0]
theorem PI(n:Int):(PG n).cells.toArray=vZ n:=rfl
theorem M_(a b:Int):(vZ a).setIfInBounds 0 (.int .i64 b)=vZ b:=by unfold vZ;simp
theorem X_(a:Int):(vZ a)[0]?=some (.int .i64 a):=rfl
theorem X'(w:World):gM w (PG 0) [] :=
 ⟨dZ.nil _ _,⟨ag,ag,fun _ h=>by cases h⟩,ag,ag,ag,ag,ag,ag,ag,ag,ag,ag,ag,ag,ag,ag,ag,ag⟩
theorem JV(n:Int)(w:World)(h0: -9223372036854775808<=n)(h1:n<=9223372036854775807):gM w (PG n) []:={X' w with what:=⟨h0,h1⟩}
theorem Na(a c:Int)(s:aj)(w:World):(binOp .eql 30 (.agg #[.int .i64 a,.string s,.int .i64 c]) (.agg #[.int .i64 a,.string s,.int .i64 c])).run prog w=.ok (.bool true) w:=by
 go_simp
theorem TG(w:World)(ht:kO w):aB 12 #[] w fun e w'=>e=.returned (.bool true)/\Fr aS w w':=by
 have HT:=O ht;obtain⟨lw1,lw2,lw3,le1,le2,le3,le4,li1,li2⟩:=abD;have LE1:=O le1;have LE2:=O le2;have LE3:=O le3;have LE4:=O le4;have HRI:=O (show(prog.info? 41).map (·.size)=some (vZ 2).size from af);have HRO:=O (show(vZ 2).all (·.oneCell')=true from dw);have LI1:=O li1;have LI2:=O li2;clear ht le1 le2 le3 le4 li1 li2;go_enter func12,ntmps12;go_wp2_with fail
 refine(JF w).mono ?_;rintro e w1⟨B,pv1,rfl,oJ,dk⟩;have IV:=O (oJ w.heap.size (ay _));have ln:=O dk;clear oJ dk;go_wp2_with fail
 refine(Aq w1).mono ?_;rintro e w2⟨rfl,dE⟩;unfold gG.cells uw;go_wp2_with fail
 refine(Aq w2).mono ?_;rintro e w3⟨rfl,iz⟩;unfold gG.cells uw;obtain⟨x1,mU⟩:∃x1,x1=w3.alloc (.cells (vZ 2) 41):=⟨_,rfl⟩;have ags:Fr aS w1 x1:=by rw[mU];exact(dE.trans iz).alloc _
 have QC:=O (show x1.heap[w3.heap.size]?=some (.cells (vZ 2) 41 (0,0))by rw[mU];exact aC _ _);have py:=O (show w.heap.size<=w3.heap.size from(ln.o.trans (dE.trans iz)).size);have Nl:=O (IV.o.dm ags);have SU:=O (ln.o.trans ags);have SQ:=O mU;have Q0:=QC.o;rw[mU]at Q0;have ari:=O Q0;clear dE iz ags mU Q0
 have HD1:=O (show aB 14 #[.pointer (some ⟨B,0,none⟩),.agg (vZ 2)] x1 (fun e w'=>e=.returned (.agg #[.int .i64 3,.string ⟨#[]⟩,.int .i64 0])/\dp w.heap.size x1 B pv1 lw1 w')from by
  have h:=JA w.heap.size x1 B pv1 yW (PG 2) [] Nl.o (JV 2 x1 ag ag) lr.new w HT.o (ay _) SU.o;rw[PH,PI,LE1.o]at h;exact h)
 go_wp2_with (first|((with_reducible refine dr 16 ?_);refine aI rfl 41 (.tmp 2) rfl w3.heap.size rfl _ (vZ 2) (0,0) _ ari.o underlying41 rfl af ?_)|((with_reducible refine kD ⟨none,.store 41 (.tmp 2) (.tmp 14),_,_,_,_⟩ ?_);refine pX rfl 41 (.tmp 2) (.tmp 14) rfl zOp (vZ 2) rfl rfl HRI.o rfl HRO.o ?_)|fail)
 rw[<-SQ.o];refine HD1.o.mono ?_;rintro e v1⟨rfl,hp⟩;obtain⟨pv2,hv,GA,Ya⟩:=EZ Nl.o SU.o (ay _) hp;have TH:=Ya _ _ _ QC.o jw ag;have Ll:w3.heap.size<v1.heap.size:=bq TH;obtain⟨s1,hs⟩:∃s1,s1=v1.setCell ⟨w3.heap.size,0,none⟩ (.int .i64 3):=⟨_,rfl⟩;obtain⟨qa,qb,qc,qd⟩:=Hz hv GA py.o py.o TH jw ag ag 0 (.int .i64 3)
 have c0:v1.cell? ⟨w3.heap.size,0,none⟩=some (.int .i64 2):=by simp only[World.cell?,TH];exact X_ _
 have z0:v1.frozen? ⟨w3.heap.size,0,none⟩=false:=by simp[World.frozen?,TH]
 rw[M_]at qc;rw[<-hs]at qa qb qc qd;have hss:s1.heap.size=v1.heap.size:=by rw[hs];simp[World.setCell]
 have gX:Fr aS s1 (s1.alloc (.cells #[.int .i64 3,.string ⟨#[]⟩,.int .i64 0] 30)):=(ae _ _).alloc _;have hra:=aC s1 (.cells #[.int .i64 3,.string ⟨#[]⟩,.int .i64 0] 30);obtain⟨x2,hx⟩:∃x2,x2=s1.alloc (.cells #[.int .i64 3,.string ⟨#[]⟩,.int .i64 0] 30):=⟨_,rfl⟩;have qB:=gX.keep qc id
 have alz:=O (show x2.heap[v1.heap.size]?=some (.cells #[.int .i64 3,.string ⟨#[]⟩,.int .i64 0] 30 (0,0))from by rw[hx, <-hss];exact hra);have J8:=O Ll;have QM:=O (show cE w.heap.size x2 B pv2 lw1 by rw[hx];exact qa.dm gX);have qj:=O (show x2.heap[w3.heap.size]?=some (.cells (vZ 3) 41 (0,0))by rw[hx];exact qB);have T3:=O (show Fr aS w x2 by rw[hx];exact qb.trans gX);rw[hs]at hx;have HY2:=O hx
 have hzz:=qj.o;rw[hx]at hzz;have ark:=O hzz;clear hx hs qa qb qc qd qB hra gX TH GA hv Ya hzz hp hss;have HD2:=O (show aB 14 #[.pointer (some ⟨B,0,none⟩),.agg (vZ 3)] x2 (fun e w'=>e=.returned (.agg #[.int .i64 1,.string ⟨#[]⟩,.int .i64 0])/\dp w.heap.size x2 B pv2 lw2 w')from by
  have h:=JA w.heap.size x2 B pv2 lw1 (PG 3) [] QM.o (JV 3 x2 ag ag) LI1.o w HT.o (ay _) T3.o;rw[PH,PI,LE2.o]at h;exact h)
 go_wp2_with (first|((with_reducible refine dr 20 ?_);refine aI rfl 41 (.tmp 2) rfl w3.heap.size rfl _ (vZ 3) (0,0) _ ark.o underlying41 rfl af ?_)|fail)
 rw[<-HY2.o];refine HD2.o.mono ?_;rintro e v2⟨rfl,hp⟩;obtain⟨pv3,hv,GA,Ya⟩:=EZ QM.o T3.o (ay _) hp;have TH:=Ya _ _ _ qj.o jw ag;have zg:=Ya _ _ _ alz.o dM ag;have Ll:w3.heap.size<v2.heap.size:=bq TH;obtain⟨s2,hs⟩:∃s2,s2=v2.setCell ⟨w3.heap.size,0,none⟩ (.int .i64 1):=⟨_,rfl⟩;obtain⟨qa,qb,qc,qd⟩:=Hz hv GA py.o py.o TH jw ag ag 0 (.int .i64 1)
 have c0:v2.cell? ⟨w3.heap.size,0,none⟩=some (.int .i64 3):=by simp only[World.cell?,TH];exact X_ _
 have z0:v2.frozen? ⟨w3.heap.size,0,none⟩=false:=by simp[World.frozen?,TH]
 rw[M_]at qc;rw[<-hs]at qa qb qc qd;have hss:s2.heap.size=v2.heap.size:=by rw[hs];simp[World.setCell]
 have gX:Fr aS s2 (s2.alloc (.cells #[.int .i64 1,.string ⟨#[]⟩,.int .i64 0] 30)):=(ae _ _).alloc _;have hra:=aC s2 (.cells #[.int .i64 1,.string ⟨#[]⟩,.int .i64 0] 30);obtain⟨x3,hx⟩:∃x3,x3=s2.alloc (.cells #[.int .i64 1,.string ⟨#[]⟩,.int .i64 0] 30):=⟨_,rfl⟩;have qB:=gX.keep qc id
 have alA:=O (show x3.heap[v2.heap.size]?=some (.cells #[.int .i64 1,.string ⟨#[]⟩,.int .i64 0] 30 (0,0))from by rw[hx, <-hss];exact hra);have alB:=O (show x3.heap[v1.heap.size]?=some (.cells #[.int .i64 3,.string ⟨#[]⟩,.int .i64 0] 30 (0,0))from by rw[hx];exact gX.keep (qd _ _ (by have:=J8.o;omega) zg) id);have YG:=O Ll;have T_:=O (show cE w.heap.size x3 B pv3 lw2 by rw[hx];exact qa.dm gX)
 have OU:=O (show x3.heap[w3.heap.size]?=some (.cells (vZ 1) 41 (0,0))by rw[hx];exact qB);have V6:=O (show Fr aS w x3 by rw[hx];exact qb.trans gX);rw[hs]at hx;have HY3:=O hx;have hzz:=OU.o;rw[hx]at hzz;have arn:=O hzz;clear hx hs qa qb qc qd qB hra gX TH GA hv Ya hzz hp hss zg
 have HD3:=O (show aB 14 #[.pointer (some ⟨B,0,none⟩),.agg (vZ 1)] x3 (fun e w'=>e=.returned (.agg #[.int .i64 1,.string ⟨#[66,97,115,105,99,32,100,84,112,119]⟩,.int .i64 0])/\dp w.heap.size x3 B pv3 lw3 w')from by
  have h:=JA w.heap.size x3 B pv3 lw2 (PG 1) [] T_.o (JV 1 x3 ag ag) LI2.o w HT.o (ay _) V6.o;rw[PH,PI,LE3.o]at h;exact h)
 go_wp2_with (first|((with_reducible refine dr 24 ?_);refine aI rfl 41 (.tmp 2) rfl w3.heap.size rfl _ (vZ 1) (0,0) _ arn.o underlying41 rfl af ?_)|fail)
 rw[<-HY3.o];refine HD3.o.mono ?_;rintro e v3⟨rfl,hp⟩;obtain⟨pv4,hv,GA,Ya⟩:=EZ T_.o V6.o (ay _) hp;have TH:=Ya _ _ _ OU.o jw ag;have zg:=Ya _ _ _ alB.o dM ag;have oF:=Ya _ _ _ alA.o dM ag;have gX:Fr aS v3 (v3.alloc (.cells #[.int .i64 1,.string ⟨#[66,97,115,105,99,32,100,84,112,119]⟩,.int .i64 0] 30)):=(ae _ _).alloc _;have s1:=gX.keep zg id;have s2:=gX.keep oF id
 have q1:(v3.alloc (.cells #[.int .i64 1,.string ⟨#[66,97,115,105,99,32,100,84,112,119]⟩,.int .i64 0] 30)).cell? ⟨v1.heap.size,0,none⟩=some (.int .i64 3):=by simp only[World.cell?,s1];rfl
 have q2:(v3.alloc (.cells #[.int .i64 1,.string ⟨#[66,97,115,105,99,32,100,84,112,119]⟩,.int .i64 0] 30)).cell? ⟨v2.heap.size,0,none⟩=some (.int .i64 1):=by simp only[World.cell?,s2];rfl
 have heq:=Na 1 0 ⟨#[66,97,115,105,99,32,100,84,112,119]⟩;have HGR:=O (xl w.heap.size _ B pv4 lw3 (hv.dm gX) 0 ag (by rw[LE4.o];decide));have sI:=O (GA.alloc (.cells #[.int .i64 1,.string ⟨#[66,97,115,105,99,32,100,84,112,119]⟩,.int .i64 0] 30));clear s1 s2 gX TH GA hv Ya zg oF c0 z0 Ll hp;go_wp2_with fail
 refine HGR.o.mono ?_;rintro e u⟨gv,rfl,hgn,yL⟩;obtain⟨⟨rs,cW,YN⟩,_⟩:=hgn;obtain⟨ga,gc,fO⟩:=cW.at.form;rw[ai,YN.len,LE4.o]at fO;subst fO;have HFE:=O (sI.o.trans yL);clear cW YN yL HGR;go_wp2_with fail
 go_ret;exact⟨rfl,HFE.o⟩
def agt(w:World)(T C:Nat)(t:fB)(u5:World)(n:Nat)(i:Value)(wr:World):Prop:=∃k:Nat,k<=n/\i=.int .i64 k/\df (some (C,vp (t.cU.take k))) w wr T t/\Kept u5 wr
theorem CT(v:Value)(ms:List tF)(w:World)(st0:xk w v ms)(pw:wU w)(md:tM w)(sh:tP w)(db:ow w 9 .u8 Rz) :
  aB 4 #[v] w fun e w'=>e=.returned (.bool true)/\Below w.heap.size w w':=by
 have ht:kO w:=⟨⟨db,md,sh⟩,pw⟩;have lO:=O st0;have HT:=O ht;have xn:=O (Ct w w (ae _ _) ht);clear st0 ht pw md sh db;go_enter func4,ntmps4;go_wp2_with fail
 refine xn.o.mono ?_;rintro e u0⟨rfl,pq⟩;have HLV:=O (TG u0 (HT.o.fr pq));have YK:=O pq;clear pq xn;go_wp2_with fail
 refine HLV.o.mono ?_;rintro e u1⟨rfl,alC⟩;have dk:=YK.o.trans alC;have HM:=O (Ig v ms u1 (lO.o.dm dk));have ln:=O dk;clear dk alC YK HLV;go_wp2_with fail
 refine HM.o.mono ?_;rintro e u2⟨rfl,dE⟩;have fU:=O (ln.o.trans dE);clear dE ln HM;cases hm:vw ms
 ·clear lO HT;go_wp2;go_ret;exact⟨rfl,fU.o.pJ⟩
 ·obtain⟨qL,hlen⟩:=vt.of lO.o hm;obtain⟨sZ,Ll⟩:=X4 qL hlen;have yq:=O (agk ms);have AO:=O sZ;have HRN:=O (Q3 fU.o qL ab HT.o);clear qL hlen sZ hm lO;go_wp2_with fail
  refine HRN.o.mono ?_;rintro e u3⟨T,rfl,h3⟩;have H3:=O (show df none w u3 T (Ka ms)from h3);clear h3 HRN fU;generalize Ka ms=t at *
  go_wp2_with fail
  refine(JF u3).mono ?_;rintro e u4⟨C,pv,rfl,RX,kS⟩;have h4:=H3.o.arc kS (RX _ H3.o.fr.size) (X8 (RX _ (ay _)));have H4:=O h4;have HSY:=O (BQ h4 (show t.cU.length<1000000 from ab));clear h4 RX kS H3;go_wp2_with fail
  refine HSY.o.mono ?_;rintro e u5⟨sv,rfl,J9,lN⟩;have H5:=O (H4.o.dm lN);obtain⟨es,av,c,Gd,rfl,Hk,jx⟩:=J9.alx;have afX:es.length=t.cU.length:=by rw[<-Gd,ai]
  have Ug:=O Gd;have HSM:=O (show∀e∈t.cU,e.op.user.size<=5000/\e.op.pass.size<=5000/\e.op.path.size<=5000 from fun e he=>by
   rw[<-Ug.o]at he;obtain⟨x,hx,rfl⟩:=bZ.1 he;have:=Fe (Hk x hx).fit
   rwa [(Hk x hx).is]at this)
  have Yh:=O jx;clear J9 lN Gd jx Hk HSY H4;go_wp2;go_loopw[24] (agt w T C t u5 es.length) (fun i _=>es.length-(intOf i).toNat)
  case atStart=>exact⟨0,aL _,rfl,H5.o,Kept.refl _⟩
  case round =>
   obtain⟨k,hk,rfl,hT,hK⟩:=hrel;clear H5;by_cases fe:k<es.length
   ·rcases Yh.o with rfl|⟨bk,o0,rfl,hsa⟩
    ·exact absurd fe (bV _)
    ·have hx:=List.getElem?_eq_getElem fe;generalize es[k]=x at hx;have cW:=hsa.op wr hK x (bQ hx);have hr:=hsa.row wr hK k x hx;obtain⟨ev,o,hs⟩:=x;have T':=O (show t.cU[k]?=some ev by rw[<-Ug.o,List.getElem?_map,hx];rfl);have Fu:=O (show vp (t.cU.take (k+1))=if ev.ec.what=6 then vp (t.cU.take k)else(iK (vp (t.cU.take k)) ev.op).1 by
      rw[cj,T'.o];exact xH _ _)
     have aro:=O (X9 (t.cU.take k) (fun e he=>HSM.o e (ed he)));obtain⟨ah,ch,hh⟩:=cW.own.form;rw[ai]at hh;obtain⟨y,hy⟩:∃y,y=Fy (ev,(o,hs)):=⟨_,rfl⟩;have hy':y=Tk ev.tab o ah hs.length ch ev.ec ev.iG ev.fin:=hy.trans (E0 hh ev.op ev.ec ev.iG ev.fin);rw[<-hy]at hr;have Ff:=O (show y.length=28 by rw[hy];rfl);have SQ:=O (show∀u∈y,u.oneCell'=true by rw[hy'];exact Dc _ _ _ _ _ _ _ _);have HY:=O hy
     have HR:=O hr;obtain⟨N,hN⟩:∃N,N=wr.heap.size:=⟨_,rfl⟩;have Ey:=O (show(wr.alloc (.cells xg 43)).heap[N]?=some (.cells xg 43 (0,0))from by rw[hN];exact aC _ _);have HN:=O hN;have HT4:=O hT;have TM:=O hK;have Ei:=O cW;have hke:k<es.length:=fe;clear hr hx hy hy' hh cW hsa hT hK hN;by_cases h6:ev.ec.what=6
     ·have FA:=O (show vp (t.cU.take (k+1))=vp (t.cU.take k)by rw[Fu.o,az h6]);go_wp2_with (first
       |((with_reducible refine kD ⟨some 27,_,_,_,_,_⟩ ?_)
         refine aY rfl 43 (.tmp 26) rfl bk (o0+k*28) rfl y _ HR.o underlying43 rfl (by rw[Ff.o];exact vu) ?_
         refine jh rfl 43 rfl (some 6) rfl xg Fg N HN.o.symm ?_
         refine aF rfl 43 (.tmp 6) (.tmp 27) rfl N y.toArray rfl rfl 43 xg Ey.o (by rw[aX,Ff.o];exact vu) (by have e:y.toArray.size=y.length:=rfl;rw[e,Ff.o];rfl) (JN SQ.o) ?_
         have JM:Fr aS wr ((wr.alloc (.cells xg 43)).setRow N y.toArray):=je ((ae aS wr).alloc _) (by rw[HN.o];exact ay _) _
         have kW:((wr.alloc (.cells xg 43)).setRow N y.toArray).heap[N]?=some (.cells y.toArray 43 (0,0)):=k_ Ey.o
         generalize (wr.alloc (.cells xg 43)).setRow N y.toArray=W1 at *
         have z23:W1.cell? ⟨N,23,none⟩=some (.int .i64 ev.ec.what):=(vG kW) 23 _ (by rw[HY.o];rfl))
       |fail)
      have HKW:=O (TM.o.trans (gj JM));have HTW:=O (HT4.o.dm JM);clear h6 JM kW;go_roundw
      case rel=>exact⟨k+1,ab,bg,by rw[FA.o];exact HTW.o,HKW.o⟩
      case measure=>simp[intOf];omega
     ·have FA:=O (show vp (t.cU.take (k+1))=(iK (vp (t.cU.take k)) ev.op).1 by rw[Fu.o,aq h6]);have HRP:=O (yq.o.O_.1.ok k ev T'.o h6);go_wp2_with (first
       |((with_reducible refine kD ⟨some 27,_,_,_,_,_⟩ ?_)
         refine aY rfl 43 (.tmp 26) rfl bk (o0+k*28) rfl y _ HR.o underlying43 rfl (by rw[Ff.o];exact vu) ?_
         refine jh rfl 43 rfl (some 6) rfl xg Fg N HN.o.symm ?_
         refine aF rfl 43 (.tmp 6) (.tmp 27) rfl N y.toArray rfl rfl 43 xg Ey.o (by rw[aX,Ff.o];exact vu) (by have e:y.toArray.size=y.length:=rfl;rw[e,Ff.o];rfl) (JN SQ.o) ?_
         have JM:Fr aS wr ((wr.alloc (.cells xg 43)).setRow N y.toArray):=je ((ae aS wr).alloc _) (by rw[HN.o];exact ay _) _
         have kW:((wr.alloc (.cells xg 43)).setRow N y.toArray).heap[N]?=some (.cells y.toArray 43 (0,0)):=k_ Ey.o
         generalize (wr.alloc (.cells xg 43)).setRow N y.toArray=W1 at *
         have z23:W1.cell? ⟨N,23,none⟩=some (.int .i64 ev.ec.what):=(vG kW) 23 _ (by rw[HY.o];rfl))
       |fail)
      have HKW:=O (TM.o.trans (gj JM));have HTW:=O (HT4.o.dm JM);have hkD:W1.drew.heap[N]?=some (.cells y.toArray 43 (0,0)):=kW;have agu:=Ei.o.kept (gj (JM.drew));have Yb:gM W1.drew o hs/\o.dW hs=ev.op:=⟨agu.fit,agu.is⟩;have hdo:=(HTW.o.dm (aA (ae aS W1))).extra (y':=(iK (vp (t.cU.take k)) ev.op).1) (fun pv hw=>by
       have:=QU hw (HTW.o.dm (aA (ae aS W1))).fr aro.o HT.o Yb.1;rw[Yb.2,HRP.o]at this;exact this)
      have HDO:=O hdo;have hnq:=M9 ev.ec.what ev.ec.cert ev.ec.head;obtain⟨oc,C4⟩:∃oc,oc=o.cells:=⟨_,rfl⟩;have HOC:=O (show oc.length=22 by rw[C4];rfl);have hyc:y=.int .i64 ev.tab :: (oc++(pC ev.ec++[.int .i64 ev.iG,.int .i64 ev.fin])):=by rw[HY.o,C4];rfl
      have HYC:=O hyc;rw[<-C4]at HDO;clear hyc C4 hdo Yb agu z23 JM kW h6;refine wp_region_held_drew (S:=(fun V=>V.heap[N]?=some (.cells y.toArray 43 (0,0)))) af (by exact hkD) ?_;intro zl;refine aU 0 32 rfl ?_;refine aU 1 33 rfl ?_;refine aU 4 36 rfl ?_
      refine tY 2 34 rfl (fI bD 41 (.tmp 33) rfl N 1 rfl oc _ (fun V hV=>by have q:=vG hV;rw[HYC.o]at q;exact j5 (p:=[_]) (q:=oc) q) underlying41 rfl (by rw[HOC.o];kernel_rfl)) ?_
      try simp only[Act.put,sA,sB,sC]
      refine tY 5 37 rfl (fI bD 30 (.tmp 36) rfl N 23 rfl [.int .i64 ev.ec.what,.string ev.ec.head,.int .i64 ev.ec.cert] _ (fun V hV=>by have q:=vG hV;rw[HYC.o]at q;have q2:=j5 (p:=.int .i64 ev.tab :: oc) (q:=pC ev.ec) (r:=[.int .i64 ev.iG,.int .i64 ev.fin]) (U:=V) (b:=N) (o:=0) q;rw[show 0+(Value.int .i64 ev.tab :: oc).length=23 by rw[List.length_cons,HOC.o]]at q2;exact q2) underlying30 rfl af) ?_
      try simp only[Act.put,sA,sB,sC]
      refine eR 3 rfl fun K hK=>?_;go_simp;refine HDO.o.mono ?_;rintro e u6⟨rfl,h6,hk6⟩;have HT6:=O h6;have HK6:=O hk6;have xF:=hk6.block hkD mR.1 mR.2;refine hK.out _ _ xF ?_;intro Aw;clear hK K h6 hk6 zl xF
      try simp only[Act.put,sA,sB,sC]
      refine wpAnyH_take (i:=6) (oi:=⟨some 38,_,_,_,_,_⟩) (v:=.bool false) rfl af af af (fun _ _ _ h=>h) (Or.inl ⟨bD,?hy⟩) jH ?_
      case hy=>(intro w hSw;(try dsimp only at hSw);clear Aw hkD;go_simp)
      try simp only[Act.put,sA,sB,sC]
      clear Aw hkD hnq;refine wpAnyH_done af ?_ _;have HKF:=O (((HKW.o.trans (gj (aA (ae aS W1))))).trans HK6.o);go_wp2;go_roundw
      case rel=>exact⟨k+1,ab,bg,by rw[FA.o];exact HT6.o,HKF.o⟩
      case measure=>simp[intOf];omega
   ·have UN:vp (t.cU.take k)=t.w:=by rw[aD ab];exact yq.o.O_.1.lin.symm
    rw[UN]at hT;have HTF:=O hT;have HWC:=O (H2 hT AO.o.inv);clear hT hK UN;go_wp2_with fail
    refine HWC.o.mono ?_;rintro e u7⟨D,qv,rfl,hD,nO, -⟩;have h7:=HTF.o.dm nO;have HWS:=O (M8 h7 hD rfl AO.o.inv.ok);have GB:=O h7.fr;clear h7 hD nO HWC HTF;go_wp2_with fail
    refine HWS.o.mono ?_;rintro e u8⟨rfl,rQ⟩;have NQ:=O (GB.o.trans rQ);clear rQ;go_wp2;go_ret;exact⟨rfl,NQ.o.pJ⟩
end Go.Proofs.YtnckmcnffadjoaaGreatDoor
namespace Go.Proofs.YtnckmcnffadjoaaGreatDoor.tabsLinear
open Go.Proofs.Tryz
open Go.ChangeShapes Go.WideShapes Go.ChangeAt Go.RowKit
open Go.ChangeMaps (open_string shut_string)
theorem own:ownKnob prog.godebug=none:=af
theorem laidOut:laidOutB prog=true:=af
theorem lifted(os:Os)(started:os.Started)(H:Type)(enc:TypeId×Value->H) :
  ReturnsInHanded {} Tryz.checked os 4 .any (fun w args=>(Rows.tabsLinearSpec.pre enc prog Tryz.f4 Rows.tabsLinearRow.domain false w args/\laidMetH prog Rows.tabsLinearRow.laid w)/\sizedMet enc prog Tryz.f4 (OpenSpec.ofChange Rows.tabsLinearSpec) false w args)
   (Rows.tabsLinearSpec.post enc prog Tryz.f4 false true false false):=by
 refine returnsInHanded_of_change_and (C:=Tryz.checked) (X:=fun w _=>laidMetH prog Rows.tabsLinearRow.laid w) (fun _ _ _ hh h=>h.of_heap hh) own started af func4
  (ChangeSpec.witness_shaped (enc:=enc) (C:=Tryz.checked) (os:=os) (X:=fun w _=>laidMetH prog Rows.tabsLinearRow.laid w) false (World.laidAll prog os Rows.tabsLinearRow.laid) #[.slice none 0 0] 8 (World.laidAll_os _ _ _)
   (World.shaped_of_ZipB af af) af af af
   (by rw[MakeChecks.laidMetH_plain _ _ _ af];exact laidMet_laidAll _ af af)) ?_
 intro W base args ds gs before Nb hW _ Yc hL _;have xS:(DataW.weightsEach prog (Tryz.f4.params.toList++Rows.tabsLinearSpec.plain.varTypes prog) (ds++gs)).all (· <=reachBytes)=true:=Yc;clear Yc;have hval:∀(j:Nat) t v,Tryz.f4.params[j]?=some t->args[j]?=some v->Value.okWide prog W .any base t v:=Nb;have hW':=hW;obtain⟨p,q,hA0,hV,rfl,_,_⟩:=hW
 have hA:DataW.TrodAll enc prog W 0 (fun _=>true) true Tryz.f4.params.toList args.toList ds p:=hA0;rw[Tryz.params4]at hA hval xS;obtain⟨v0,vs0,d0,ds0,p0,q0,alG,rfl,rfl,h0,r0⟩:=trodAll_cons hA;obtain⟨rfl,rfl,rfl⟩:=trodAll_nil r0;obtain rfl:args= #[v0]:=by cases args;simp_all
 obtain⟨rfl,rfl⟩:=trodVars_none hV;have k0:=h0;have lt0:∀x∈p0,x.block<W.heap.size:=by obtain⟨m,hm⟩:=k0;exact DataW.trod_lt m _ _ _ hm
 obtain⟨ss0,st0⟩:=Cs (hval 0 22 v0 rfl rfl) h0 (MY xS (j:=0) (t:=22) rfl rfl);clear hA0 Nb;rw[MakeChecks.laidMetH_plain _ _ _ af]at hL;have tb0:=Ea hL (by refine⟨?_,?_⟩<;>repeat(first|exact True.intro|exact List.Mem.head _|refine List.Mem.tail _ ?_));have tb1:=Ce hL (by refine⟨?_,?_⟩<;>repeat(first|exact True.intro|exact List.Mem.head _|refine List.Mem.tail _ ?_))
 have tb2:=Cf hL (by refine⟨?_,?_⟩<;>repeat(first|exact True.intro|exact List.Mem.head _|refine List.Mem.tail _ ?_));have tb3:=D1 hL (by refine⟨?_,?_⟩<;>repeat(first|exact True.intro|exact List.Mem.head _|refine List.Mem.tail _ ?_));refine(CT _ ss0  W st0 tb0 tb1 tb2 tb3).mono fun e W' ⟨he,ru⟩=>?_;subst he
 exact⟨_,rfl,_,_,_,[],_,[],hW',trodAll_mk1 (shut_bool underlying4 _),(trodAll_cons_mk (Below.trod laidOut af (of_decide_eq_true af) k0 ru lt0) trodAll_mk0),rfl,ru.frame _,fun h=>by cases h⟩
end Go.Proofs.YtnckmcnffadjoaaGreatDoor.tabsLinear
