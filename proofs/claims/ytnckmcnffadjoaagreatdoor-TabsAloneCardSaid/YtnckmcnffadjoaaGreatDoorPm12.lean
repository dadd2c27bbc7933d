/- Lemmas for the law's walk. -/
import Derived.Test.YtnckmcnffadjoaaGreatDoorPm11
set_option maxRecDepth 100000
set_option maxHeartbeats 16000000
set_option linter.unusedSimpArgs false
namespace Go.Proofs.YtnckmcnffadjoaaGreatDoor
open Go.Proofs.Tryz
open Go.RowKit
variable {b d n base k c:Nat} {w2 W w w':World} {L:List Item} {gs:List (aP bE)} {r:Lu} {v:Value} {ps:List jz} {a:eV} {p:jz}
theorem Cd(v v':Value)(ss:List aj)(w:World)(h:fP w v ss)(h':fP w v' ss)(hl:ss.length<=9223372036854775807) :
  aB 148 #[v,v'] w fun e w'=>e=.returned (.bool true)/\Fr aS w w':=by
 rcases h with ⟨a,c,rfl,rfl,_⟩|⟨bk,o,c,rfl,h1,h2,h3,h4⟩
 ·obtain⟨a',c',rfl⟩:=h'.form;refine(slices_Equal_string_empty a a' c 0 c' w ab).mono ?_;rintro e w'⟨rfl,rfl⟩;exact⟨rfl,ae _ _⟩
 ·rcases h' with ⟨a',c',rfl,rfl,_⟩|⟨Jy,o',c',rfl,Ir,h2',h3',h4'⟩
  ·refine(slices_Equal_string_empty (some ⟨bk,o,none⟩) a' c 0 c' w ab).mono ?_;rintro e w'⟨rfl,rfl⟩;exact⟨rfl,ae _ _⟩
  ·refine(slices_Equal_string bk o ss.length c Jy o' ss.length c' ss ss w (ay _) (ay _) hl hl (fun j hj=>h4 j _ (by simp[List.getD,hj])) (fun j hj=>h4' j _ (by simp[List.getD,hj]))).mono ?_;rintro e w'⟨rfl,q,rfl⟩;exact⟨aR,dD _ (ae _ _)⟩
theorem FA(u p:aj)(w:World):(binOp .eql 39 (.agg #[.string u,.string p]) (.agg #[.string u,.string p])).run prog w=.ok (.bool true) w:=by
 go_simp
theorem Au(r r':fK Value)(a:fK bE)(w:World)(h:r.Reads (fP w) a)(h':r'.Reads (fP w) a)(hl:a.dom.length<=9223372036854775807) :
  aB 74 #[.agg r.cells.toArray,.agg r'.cells.toArray] w fun e w'=>e=.returned (.bool true)/\Fr aS w w':=by
 obtain⟨e1,e2,e3,e4,e5,e6,e7,hd⟩:=h;obtain⟨f1,f2,f3,f4,f5,f6,f7,sM⟩:=h';obtain⟨ad,cd,xx⟩:=hd.form;obtain⟨Ta,Tb,O7⟩:=sM.form;unfold fK.cells;rw[e1,e2,e3,e4,e5,e6,e7,f1,f2,f3,f4,f5,f6,f7,xx,O7];rw[xx]at hd;rw[O7]at sM
 have hf:Fr aS w _:=((ae aS w).alloc (.cells #[.int .i64 a.scheme,.string a.aK,.string a.bq,.string a.cy,.bool a.cA,.string a.eH,.bool a.cN,.slice ad a.dom.length cd] 112)).alloc (.cells #[.int .i64 a.scheme,.string a.aK,.string a.bq,.string a.cy,.bool a.cA,.string a.eH,.bool a.cN,.slice Ta a.dom.length Tb] 112);have EQ:=O (Cd _ _ _ _ (hd.fI hf) (sM.fI hf) hl)
 clear e1 e2 e3 e4 e5 e6 e7 f1 f2 f3 f4 f5 f6 f7 xx O7 hd sM;go_enter func74,ntmps74;go_wp2_with fail
 refine EQ.o.mono ?_;rintro e w1⟨rfl,dr⟩;go_wp2;go_ret;exact⟨rfl,hf.trans dr⟩
theorem EK(r r':aP Value)(g:aP bE)(w:World)(h:r.Reads (fP w) g)(h':r'.Reads (fP w) g)(hl:g.a.dom.length<=9223372036854775807)(yM:g.paths.length<=9223372036854775807) :
  aB 76 #[.agg r.cells.toArray,.agg r'.cells.toArray] w fun e w'=>e=.returned (.bool true)/\Fr aS w w':=by
 obtain⟨e1,e2,e3,e4,e5,e6,hd⟩:=h;obtain⟨f1,f2,f3,f4,f5,f6,sM⟩:=h';obtain⟨ad,cd,xx⟩:=hd.form;obtain⟨Ta,Tb,O7⟩:=sM.form;obtain⟨am,cm,hm⟩:=e5.2.2.2.2.2.2.2.form;obtain⟨am',cm',Hp⟩:=f5.2.2.2.2.2.2.2.form
 have hr:r.cells=[.bool g.o.aE,.string g.o.host,.int .i64 g.o.port,.bool g.proxy,.string g.user,.string g.pass,.int .i64 g.a.scheme,.string g.a.aK,.string g.a.bq,.string g.a.cy,.bool g.a.cA,.string g.a.eH,.bool g.a.cN,.slice am g.a.dom.length cm,.int .i64 g.count,.slice ad g.paths.length cd]:=by
  unfold aP.cells;rw[e1,e2,e3,e4,e5.1,e5.2.1,e5.2.2.1,e5.2.2.2.1,e5.2.2.2.2.1,e5.2.2.2.2.2.1,e5.2.2.2.2.2.2.1,hm,e6,xx]
 have WX:r'.cells=[.bool g.o.aE,.string g.o.host,.int .i64 g.o.port,.bool g.proxy,.string g.user,.string g.pass,.int .i64 g.a.scheme,.string g.a.aK,.string g.a.bq,.string g.a.cy,.bool g.a.cA,.string g.a.eH,.bool g.a.cN,.slice am' g.a.dom.length cm',.int .i64 g.count,.slice Ta g.paths.length Tb]:=by
  unfold aP.cells;rw[f1,f2,f3,f4,f5.1,f5.2.1,f5.2.2.1,f5.2.2.2.1,f5.2.2.2.2.1,f5.2.2.2.2.2.1,f5.2.2.2.2.2.2.1,Hp,f6,O7]
 have hra:r.a.cells=[.int .i64 g.a.scheme,.string g.a.aK,.string g.a.bq,.string g.a.cy,.bool g.a.cA,.string g.a.eH,.bool g.a.cN,.slice am g.a.dom.length cm]:=by
  unfold fK.cells;rw[e5.1,e5.2.1,e5.2.2.1,e5.2.2.2.1,e5.2.2.2.2.1,e5.2.2.2.2.2.1,e5.2.2.2.2.2.2.1,hm]
 have akW:r'.a.cells=[.int .i64 g.a.scheme,.string g.a.aK,.string g.a.bq,.string g.a.cy,.bool g.a.cA,.string g.a.eH,.bool g.a.cN,.slice am' g.a.dom.length cm']:=by
  unfold fK.cells;rw[f5.1,f5.2.1,f5.2.2.1,f5.2.2.2.1,f5.2.2.2.2.1,f5.2.2.2.2.2.1,f5.2.2.2.2.2.2.1,Hp]
 rw[hr,WX];rw[xx]at hd;rw[O7]at sM
 have hf:Fr aS w _:=((ae aS w).alloc (.cells #[.bool g.o.aE,.string g.o.host,.int .i64 g.o.port,.bool g.proxy,.string g.user,.string g.pass,.int .i64 g.a.scheme,.string g.a.aK,.string g.a.bq,.string g.a.cy,.bool g.a.cA,.string g.a.eH,.bool g.a.cN,.slice am g.a.dom.length cm,.int .i64 g.count,.slice ad g.paths.length cd] 114)).alloc (.cells #[.bool g.o.aE,.string g.o.host,.int .i64 g.o.port,.bool g.proxy,.string g.user,.string g.pass,.int .i64 g.a.scheme,.string g.a.aK,.string g.a.bq,.string g.a.cy,.bool g.a.cA,.string g.a.eH,.bool g.a.cN,.slice am' g.a.dom.length cm',.int .i64 g.count,.slice Ta g.paths.length Tb] 114)
 have SA:=O (Au r.a r'.a g.a _ (e5.mono (fun _ _ h=>h.fI hf)) (f5.mono (fun _ _ h=>h.fI hf)) hl);rw[hra,akW]at SA;have hpa:=O (hd.fI hf);have afV:=O (sM.fI hf);have MM:gA.lj g.o g.o=true:=(gA.wO _ _).2 rfl;have hne:=jA g.o g.o;rw[MM]at hne;have hce:=FA g.user g.pass;clear e1 e2 e3 e4 e5 e6 f1 f2 f3 f4 f5 f6 xx O7 hd sM hm Hp hr WX hra akW MM
 obtain⟨x,hx⟩:∃x:bS,x= #[.bool g.o.aE,.string g.o.host,.int .i64 g.o.port,.bool g.proxy,.string g.user,.string g.pass,.int .i64 g.a.scheme,.string g.a.aK,.string g.a.bq,.string g.a.cy,.bool g.a.cA,.string g.a.eH,.bool g.a.cN,.slice am g.a.dom.length cm,.int .i64 g.count,.slice ad g.paths.length cd]:=⟨_,rfl⟩
 obtain⟨y,hy⟩:∃y:bS,y= #[.bool g.o.aE,.string g.o.host,.int .i64 g.o.port,.bool g.proxy,.string g.user,.string g.pass,.int .i64 g.a.scheme,.string g.a.aK,.string g.a.bq,.string g.a.cy,.bool g.a.cA,.string g.a.eH,.bool g.a.cN,.slice am' g.a.dom.length cm',.int .i64 g.count,.slice Ta g.paths.length Tb]:=⟨_,rfl⟩
 have Jv:((w.alloc (.cells x 114)).alloc (.cells y 114)).heap[w.heap.size]?=some (.cells x 114 (0,0)):=by
  rw[Below.heap_alloc _ _ _ aR];exact aC w _
 have qf:((w.alloc (.cells x 114)).alloc (.cells y 114)).heap[w.heap.size+1]?=some (.cells y 114 (0,0)):=by
  have:=aC (w.alloc (.cells x 114)) (.cells y 114);simpa using this
 have x14:x[14]?=some (.int .i64 g.count):=by rw[hx];rfl
 have x15:x[15]?=some (.slice ad g.paths.length cd):=by rw[hx];rfl
 have Fy:y[14]?=some (.int .i64 g.count):=by rw[hy];rfl
 have y15:y[15]?=some (.slice Ta g.paths.length Tb):=by rw[hy];rfl
 have X:=O (And.intro x14 x15);have Y:=O (And.intro Fy y15);have HB:=O (And.intro Jv qf);have HX:=O hx;have HY:=O hy;clear x14 x15 Fy y15 Jv qf hx hy;go_enter func76,ntmps76;go_wp2_with fail
 refine SA.o.mono ?_;rintro e w1⟨rfl,dr⟩;clear SA;rw[<-HX.o, <-HY.o]at hf dr hpa afV;have Jv:=dr.keep HB.o.1 id;have qf:=dr.keep HB.o.2 id;have c14:w1.cell? ⟨w.heap.size,14,none⟩=some (.int .i64 g.count):=by simp only[World.cell?,Jv];simpa using X.o.1
 have c15:w1.cell? ⟨w.heap.size,15,none⟩=some (.slice ad g.paths.length cd):=by simp only[World.cell?,Jv];simpa using X.o.2
 have d14:w1.cell? ⟨w.heap.size+1,14,none⟩=some (.int .i64 g.count):=by simp only[World.cell?,qf];simpa using Y.o.1
 have d15:w1.cell? ⟨w.heap.size+1,15,none⟩=some (.slice Ta g.paths.length Tb):=by simp only[World.cell?,qf];simpa using Y.o.2
 have EQ:=O (Cd _ _ _ w1 (hpa.o.fI dr) (afV.o.fI dr) yM);have HF:=O (hf.trans dr);clear Jv qf hf dr hpa afV HB X Y HX HY hne hce;go_wp2_with fail
 refine EQ.o.mono ?_;rintro e w2⟨rfl,dB⟩;go_wp2;go_ret;exact⟨rfl,HF.o.trans dB⟩
def akX(w:World)(n:Nat)(i:Value)(wr:World):Prop:=∃k:Nat,k<=n/\i=.int .i64 k/\Fr aS w wr
theorem MB(v v':Value)(rs rs':List (aP Value))(gs:List (aP bE))(w:World)(hv:dY 16 w v (rs.map aP.cells))(se:dY 16 w v' (rs'.map aP.cells))(hb:lg (aP.Reads (fP w)) rs gs)(hb':lg (aP.Reads (fP w)) rs' gs)
  (hl:∀g∈gs,g.a.dom.length<=9223372036854775807/\g.paths.length<=9223372036854775807) :
  aB 75 #[v,v',.func (.func 76) #[] #[]] w fun e w'=>e=.returned (.bool true)/\Fr aS w w':=by
 have hn:=hb.len;have Rv:=hb'.len;obtain⟨av,cv,fJ⟩:=hv.form;obtain⟨av',Yl,XG⟩:=se.form;rw[ai,hn]at fJ;rw[ai,Rv]at XG;subst fJ XG;go_enter func75,ntmps75;go_wp2;go_loopw[17] (akX w gs.length) (fun i _=>gs.length-(intOf i).toNat)
 case atStart=>exact⟨0,aQ _,rfl,ae _ _⟩
 case round =>
  obtain⟨k,hk,rfl,cL⟩:=hrel;by_cases fo:k<gs.length
  ·obtain⟨r,yL⟩:∃r,rs[k]?=some r:=⟨_,List.getElem?_eq_getElem ab⟩;obtain⟨r',abf⟩:∃r,rs'[k]?=some r:=⟨_,List.getElem?_eq_getElem ab⟩;obtain⟨g,hg,hr⟩:=hb.get yL;obtain⟨g',Ya,WX⟩:=hb'.get abf;rw[hg]at Ya;cases Ya;obtain⟨hl1,yM⟩:=hl g (cq hg);have eb:=(hv.1 _ (b_.2 ⟨r,cq yL,rfl⟩)).2;have acR:=(se.1 _ (b_.2 ⟨r',cq abf,rfl⟩)).2;rcases(hv.fI cL).2 with ⟨_,_,_,e,_⟩|⟨bk,o,c,e1,q1,q2,q3,q4⟩
   ·simp at e;rw[e]at hn;simp at hn;omega
   rcases(se.fI cL).2 with ⟨_,_,_,e,_⟩|⟨Jy,o',c',e1',q1',q2',q3',q4'⟩
   ·simp at e;rw[e]at Rv;simp at Rv;omega
   rw[ai,hn]at e1 q1;rw[ai,Rv]at e1' q1';cases e1;cases e1';unfold maxLen at q2 q2';have hcell:=q4 k r.cells (by rw[List.getElem?_map,yL];rfl);have Jk:=q4' k r'.cells (by rw[List.getElem?_map,abf];rfl);obtain⟨x,hx⟩:∃x,x=r.cells:=⟨_,rfl⟩;obtain⟨y,hy⟩:∃y,y=r'.cells:=⟨_,rfl⟩;have lB:x.length=16:=by rw[hx];rfl
   have C7:y.length=16:=by rw[hy];rfl
   have ir:=fun W=>run_storeCells_new (P:=prog) W 114 eS x (by rw[lB];rfl) (by rw[hx];exact eb);have akZ:=run_storeCells_new (P:=prog) (wr.alloc (.cells x.toArray 114)) 114 eS y (by rw[C7];rfl) (by rw[hy];exact acR);rw[show(wr.alloc (.cells x.toArray 114)).heap.size=wr.heap.size+1 from aR]at akZ;rw[<-hx]at hcell;rw[<-hy]at Jk
   have afW:∀(i:Nat) u,y[i]?=some u->(wr.alloc (.cells x.toArray 114)).cell? ⟨Jy,o'+k*16+i,none⟩=some u:=fun i u hu=>by
    have:=Jk i u hu;rw[<-this];exact((ae aS wr).alloc _).cell (p:=⟨Jy,o'+k*16+i,none⟩) q3' id
   have dB:Fr aS wr ((wr.alloc (.cells x.toArray 114)).alloc (.cells y.toArray 114)):=((ae aS wr).alloc _).alloc _;have Jv:((wr.alloc (.cells x.toArray 114)).alloc (.cells y.toArray 114)).heap[wr.heap.size]?=some (.cells x.toArray 114 (0,0)):=by
    rw[Below.heap_alloc _ _ _ aR];exact aC wr _
   have qf:((wr.alloc (.cells x.toArray 114)).alloc (.cells y.toArray 114)).heap[wr.heap.size+1]?=some (.cells y.toArray 114 (0,0)):=by
    have:=aC (wr.alloc (.cells x.toArray 114)) (.cells y.toArray 114);simpa using this
   have SG:=O (EK r r' g _ (hr.mono (fun _ _ h=>(h.fI cL).fI dB)) (WX.mono (fun _ _ h=>(h.fI cL).fI dB)) hl1 yM);rw[<-hx, <-hy]at SG;have HB:=O (And.intro Jv qf);have HF:=O (cL.trans dB);have DN:(prog.info? 114).map (·.size)=some x.length:=by rw[lB];kernel_rfl
   have hyi:(prog.info? 114).map (·.size)=some y.length:=by rw[C7];kernel_rfl
   have Iq:=O DN;have HYI:=O hyi;clear hx hy Jv qf eb acR hr WX hg yL abf q4 q4' Jk DN hyi hl1 yM dB
   go_wp2_with (first|((with_reducible refine di 21 ?_);refine a_ rfl 114 (.tmp 20) rfl bk (o+k*16) rfl x _ hcell underlying114 rfl Iq.o ?_)|((with_reducible refine di 25 ?_);refine a_ rfl 114 (.tmp 24) rfl Jy (o'+k*16) rfl y _ afW underlying114 rfl HYI.o ?_)|((with_reducible refine di 27 ?_);refine aH rfl 114 (.tmp 8) rfl wr.heap.size rfl _ x.toArray (0,0) _ HB.o.1 underlying114 rfl (by rw[aZ];exact Iq.o) ?_)|((with_reducible refine di 28 ?_);refine aH rfl 114 (.tmp 9) rfl (wr.heap.size+1) rfl _ y.toArray (0,0) _ HB.o.2 underlying114 rfl (by rw[aZ];exact HYI.o) ?_)|fail)
   clear ir akZ;refine SG.o.mono ?_;rintro e w3⟨rfl,iz⟩;have iA:=O (HF.o.trans iz);go_wp2;go_roundw
   case rel=>exact⟨k+1,ab,bg,iA.o⟩
   case measure=>simp[intOf];omega
  ·go_wp2;go_ret;exact⟨rfl,cL⟩
theorem MD(p:eo)(w:World):(binOp .neq 155 (.agg p.cells.toArray) (.agg p.cells.toArray)).run prog w=.ok (.bool false) w:=by
 unfold eo.cells;go_simp
def afX(w:World)(n:Nat)(i:Value)(wr:World):Prop:=∃k:Nat,k<=n/\i=.int .i64 k/\Fr aS w wr
theorem Jl(v v':Value)(ps:List eo)(w:World)(h:qN w v ps)(h':qN w v' ps) :
  aB 77 #[v,v'] w fun e w'=>e=.returned (.bool true)/\Fr aS w w':=by
 obtain⟨av,cv,hv⟩:=dK h;obtain⟨av',Yl,se⟩:=dK h';subst hv se;rw[ai]at h h' ⊢;have HL:=O (fun U (hU:Fr aS w U)=>bh h hU);have HL':=O (fun U (hU:Fr aS w U)=>bh h' hU);have HQ:=O (MD);clear h h';go_enter func77,ntmps77;go_wp2;go_loopw[13] (afX w ps.length) (fun i _=>ps.length-(intOf i).toNat)
 case atStart=>exact⟨0,aQ _,rfl,ae _ _⟩
 case round =>
  obtain⟨k,hk,rfl,cL⟩:=hrel;by_cases fo:k<ps.length
  ·have pq:(k:Int)<(ps.length:Int):=ab;have N7:(0:Int)<=(k:Int):=ab;have hne:ps≠ []:=by intro e;rw[e]at fo;cases fo
   obtain⟨bk,of,rfl,g1,g2,g3,g4,g5⟩:=qN.lie (HL.o wr cL) hne;obtain⟨Jy,of',rfl,g1',g2',g3',g4',g5'⟩:=qN.lie (HL'.o wr cL) hne;unfold maxLen at g3 g3';have dT:=O (List.getElem?_eq_getElem fo);generalize ps[k]=q at dT;obtain⟨c0,c1,c2,c3,c4,c5,c6,c7,c8,c9,GA,TB⟩:=g5 k q dT.o;obtain⟨d0,d1,d2,d3,d4,d5,d6,d7,d8,d9,d10,d11⟩:=g5' k q dT.o;have heq:=HQ.o q;unfold eo.cells at heq;clear g1 g5 g1' g5';go_wp2
   go_quiet (fail);go_wp2;go_roundw
   case rel=>exact⟨k+1,ab,bg,cL.drewN _⟩
   case measure=>simp[intOf];omega
  ·have pq:¬(k:Int)<(ps.length:Int):=ab;go_wp2;go_ret;exact⟨rfl,cL⟩
def zv(fQ:Int)(cy:aj)(x:nU):i_:=⟨fQ,x.aK.data.toList,x.bq.data.toList,cy.data.toList,x.cA,x.eH.data.toList,x.user.data.toList,x.target.data.toList,(og x).data.toList,x.bL.data.toList,jD x.n⟩
theorem DB(x:nU):(og x).size<=64:=by unfold og;split<;>exact lK _ _
def Ij(fQ:Int)(cy:aj)(x:nU)(n:Int)(w:World)(e:Ending)(w':World):Prop :=
 Fr aS w w'/\(((zv fQ cy x).fair=false/\∃t v,e=.returned (.tuple #[.string ⟨#[]⟩,.iface t v]))\/((fQ=2\/fQ=3)/\n=(x.n:Int)/\1<=x.n/\x.n<=4294967295/\(zv fQ cy x).fair=true/\e=.returned (.tuple #[.string (bA (zv fQ cy x).text),.nilIface])))
structure St (b d n:Nat) (w2:World) (L:List Item) (W:World):Prop where
 hb:vK b b (vR L) W
 hd:zo W d (ya L)
 rI:Below w2.heap.size w2 W
 sz:b<=W.heap.size
 cnt:L.length<=n
 len:(vR L).length<=7+10100*n
theorem Rb(l:List Item)(nm v:Bs)(q:Bool){M:Nat}(h:(vR l).length<=M)(hn:nm.length<=20)(hv:v.length<=5000):(vR (l++[(nm,v,q)])).length<=M+10100:=by
 rw[<-Ky];have h1:=UB (vR l) nm (AP q v);have h2:=UA q v;omega
theorem St.KK{W':World}(h:St b d n w2 L W)(hf:Fr aS W W')(hB:b=w2.heap.size):St b d n w2 L W' :=
 ⟨h.hb.fI hf,hf.keep h.hd id,h.rI.trans ((oD hf).mono (hB▸h.sz)),aG h.sz hf.size,h.cnt,h.len⟩
theorem St.named(h:St b d n w2 L W):∃M,M=L/\St b d n w2 M W:=⟨L,rfl,h⟩
theorem lL(b d n:Nat)(w2:World)(L:List Item)(W:World)(nm:Bs)(nb:aj)(v:aj)(q:Bool)(Ay:nb=bA nm)(hB:b=w2.heap.size)(Nv:b<d)(hn:n<=20)(X1:nm.length<=20)(hv:v.size<=5000)(h:St b d n w2 L W) :
  aB 99 #[.string nb,.string v,.bool q,.pointer (some ⟨d,0,none⟩),.pointer (some ⟨b,0,none⟩)] W (fun e w'=>e=.returned (.tuple #[])/\St b d (n+1) w2 (L++[(nm,v.data.toList,q)]) w'):=by
 subst Ay;have hl:=h.len;have se:v.data.toList.length<=5000:=by simpa using hv
 have:=Y_ b b d (vR L) nm v.data.toList (ya L) q W h.hb h.hd ab ab ab ab ab h.sz;rw[Ua]at this;refine this.mono ?_;rintro e w'⟨rfl,h1,h2,h3⟩;rw[Ky]at h1;rw[Q7]at h2;refine⟨rfl,h1,h2,h.rI.trans (hB▸h3),aG h.sz h3.size,by simp;exact h.cnt,?_⟩;exact aG (Rb L nm v.data.toList q hl X1 se) (by rw[Nat.mul_add];omega)
theorem pN{x:Bool}(h:zo w d x):w.cell? ⟨d,0,none⟩=some (.bool x):=by simp[World.cell?,show w.heap[d]?=_ from h]
def A_(o:gA)(proxy:Bool)(g:bJ bE):Bool:=g.o.lj o&&g.proxy==proxy
def ml(o:gA)(proxy:Bool):List (bJ bE)->List (bJ bE)×Option (bJ bE)
 |[]=>([],none)
 |g :: l=>if A_ o proxy g then(l,some g)else(g :: (ml o proxy l).1,(ml o proxy l).2)
theorem D3{o:gA}{proxy:Bool}:∀ {l:List (bJ bE)},l.any (A_ o proxy)=false->ml o proxy l=(l,none)
 |[],_=>rfl
 |g :: l,h=>by
  rw[List.any_cons,eM]at h;rw[ml,h.1,D3 h.2];rfl
theorem Gv{o:gA}{proxy:Bool}:∀ {l:List (bJ bE)} {k:Nat} {g:bJ bE},(l.take k).any (A_ o proxy)=false->l[k]?=some g->A_ o proxy g=true->ml o proxy l=(l.take k++l.drop (k+1),some g)
 |[],k,g,_,h,_=>by simp at h
 |a :: l,0,g,_,h,hg=>by
  simp at h;subst h;rw[ml,hg];rfl
 |a :: l,k+1,g,ha,h,hg=>by
  rw[List.take_succ_cons,List.any_cons,eM]at ha;rw[ml,ha.1,Gv ha.2 (by simpa using h) hg];rfl
theorem Gw(o:gA)(proxy:Bool):∀(l:List (bJ bE)),(ml o proxy l).1.length<=l.length
 |[]=>ay _
 |g :: l=>by
  rw[ml];split
  ·simp
  ·have:=Gw o proxy l;simp;omega
def nA(base:Nat)(w:World)(b:Nat)(gv wv:Value)(gs:List (aP bE))(u:List (bJ bE)×Option (bJ bE))(e:Ending)(w':World):Prop :=
 kE base w b gv wv gs u.1 w'/\match u.2 with
 |none=>e=.returned (.tuple #[.agg v_,.bool false])
 |some g=>∃r:bJ Value,e=.returned (.tuple #[.agg r.cells.toArray,.bool true])/\r.Reads (dv base w') g/\∀u∈r.cells,u.oneCell'=true
theorem P_:(v_:bS).all (·.oneCell')=true:=bX IA
theorem Gx{base:Nat}{w5 w6:World}{b gg cap i n:Nat}{gv:Value}{gs:List (aP bE)}{ls:List (bJ bE)}{rs:List (bJ Value)}(h5:dE base w5 b gv (.slice (some ⟨gg,0,none⟩) ls.length cap) gs ls)
  (hb:lg (bJ.Reads (dv base w5)) rs ls)(zm:OwnRows base 133 13 w6 (.slice (some ⟨gg,0,none⟩) (i+(ls.length-n)) cap) ((rs.map bJ.cells).take i++(rs.map bJ.cells).drop n))(nF:Fr (one gg) w5 w6) :
  dE base (w6.setCell ⟨b,1,none⟩ (.slice (some ⟨gg,0,none⟩) (i+(ls.length-n)) cap)) b gv (.slice (some ⟨gg,0,none⟩) (i+(ls.length-n)) cap) gs (ls.take i++ls.drop n) /\
  Fr (dw b gv (.slice (some ⟨gg,0,none⟩) ls.length cap)) w5 (w6.setCell ⟨b,1,none⟩ (.slice (some ⟨gg,0,none⟩) (i+(ls.length-n)) cap))/\w6.cell? ⟨b,1,none⟩=some (.slice (some ⟨gg,0,none⟩) ls.length cap)/\w6.frozen? ⟨b,1,none⟩=false:=by
 have lo:=h5.low;have eb:∀k,one gg k->own (.slice (some ⟨gg,0,none⟩) ls.length cap) k:=fun k hk=>by have e:k=gg:=hk;rw[e];rfl
 have mS:rY base w5 (one gg):=fun k hk hl=>h5.off k (Or.inr (Or.inr (eb k hk))) hl;have sX:=nF.keep h5.eL (fun h=>h5.wb (eb _ h));have zG:gi base w6 gv gs:=h5.bH.fr nF mS (fun k hk hg=>h5.gw hk (eb _ hg));have hm:=hb.mono (fun _ _ h=>h.mono (fun _ _ h=>h.fr nF mS));have hg6:ki base w6 (.slice (some ⟨gg,0,none⟩) (i+(ls.length-n)) cap) (ls.take i++ls.drop n):=by
  refine⟨rs.take i++rs.drop n,?_,(hm.take i).app (hm.drop n)⟩;rw[bG,List.map_take,List.map_drop];exact zm
 have Uw:Fr (dw b gv (.slice (some ⟨gg,0,none⟩) ls.length cap)) w5 w6:=nF.mono (fun k _ hk=>Or.inr (Or.inr (eb k hk)));exact⟨dE.adV lo sX zG hg6,Uw.setCell (p:=⟨b,1,none⟩) (fun _=>Or.inl rfl) _,by simp[World.cell?,sX],by simp[World.frozen?,sX]⟩
theorem kE.ait{gv wv:Value}{ws:List (bJ bE)}(h:dE base w b gv wv gs ws)(hf:Fr aS w w'):kE base w b gv wv gs ws w' :=
 ⟨gv,wv,h.dm hf,hf.mono (fun _ _ h=>absurd h id),fun _ hk=>Or.inl hk⟩
def aiu(w:World)(ws:List (bJ bE))(o:gA)(proxy:Bool)(i:Value)(wr:World):Prop :=
 ∃k:Nat,k<=ws.length/\i=.int .i64 k/\(ws.take k).any (A_ o proxy)=false/\Fr aS w wr
theorem Lh(base:Nat)(w:World)(b:Nat)(gv wv:Value)(gs:List (aP bE))(ws:List (bJ bE))(o:gA)(proxy:Bool)(h:dE base w b gv wv gs ws)(EO:ws.length<34359738368) :
  aB 59 #[.pointer (some ⟨b,0,none⟩),.agg o.cells.toArray,.bool proxy] w (nA base w b gv wv gs (ml o proxy ws)):=by
 unfold gA.cells;have uf:=h.lt;have lo:=h.low;obtain⟨aw,cw,Fb⟩:=h.waits.form;subst Fb;have pd:Fr aS w _:=((ae aS w).alloc (.cells #[.bool o.aE,.string o.host,.int .i64 o.port] 32)).alloc (.cells v_ 133);have b1:=aC (w.alloc (.cells #[.bool o.aE,.string o.host,.int .i64 o.port] 32)) (.cells v_ 133)
 rw[show(w.alloc (.cells #[.bool o.aE,.string o.host,.int .i64 o.port] 32)).heap.size=w.heap.size+1 from aR]at b1;have b0:=Below.heap_alloc (w.alloc (.cells #[.bool o.aE,.string o.host,.int .i64 o.port] 32)) (.cells v_ 133) w.heap.size aR;rw[aC]at b0;have h1:=h.dm pd;have c1:=h1.c1;have Zo:=O b0;have P8:=O b1;clear b0 b1;go_enter func59,ntmps59;go_wp2_with fail
 clear c1;generalize (w.alloc (.cells _ 32)).alloc _=W at *
 go_loopw[15] (aiu W ws o proxy) (fun i _=>ws.length-(intOf i).toNat)
 case atStart=>exact⟨0,aQ _,rfl,rfl,ae _ _⟩
 case round =>
  obtain⟨k,hk,rfl,jk,cL⟩:=hrel;have ZG:=O jk;clear jk;by_cases fo:k<ws.length
  ·obtain⟨bk,c,dr,sN,r,eb,hr,hcell⟩:=(h1.dm cL).waits.at fo;cases dr;unfold maxLen at sN;have dT:=O (List.getElem?_eq_getElem fo);obtain⟨x,hx⟩:∃x,x=r.cells:=⟨_,rfl⟩;have lB:x.length=13:=by rw[hx];rfl
   have ir:=fun W=>run_storeCells_new (P:=prog) W 133 v_ x (by rw[lB];rfl) (by rw[hx];exact eb);rw[<-hx]at hcell;have Iq:=O (A1 lB);have gS:Fr aS wr (wr.alloc (.cells x.toArray 133)):=(ae aS wr).alloc _;have qk:(wr.alloc (.cells x.toArray 133)).heap[wr.heap.size]?=some (.cells x.toArray 133 (0,0)):=aC _ _
   have np:∀i u,r.cells[i]?=some u->(wr.alloc (.cells x.toArray 133)).cell? ⟨wr.heap.size,i,none⟩=some u:=fun i u hu=>by
    rw[<-hx]at hu;simp only[World.cell?,qk];simpa using hu
   have c0:=np 0 _ rfl;have c1:=np 1 _ rfl;have c2:=np 2 _ rfl;have c3:=np 3 _ rfl;have heq:=jA r.o o;have hO3:=O (gS.keep (cL.keep Zo.o id) id);have r_:=cL.trans gS;have h3:=h1.dm r_;have rF:=O (hr.mono (fun _ _ h=>h.dm gS));have hq:=O (show A_ o proxy ws[k]=(r.o.lj o&&r.proxy==proxy)by unfold A_;rw[hr.1,hr.2.1]);have HX:=O hx;have tR:=O qk;have xc:=O eb
   have hlw:wr.heap.size<(wr.alloc (.cells x.toArray 133)).heap.size:=aR;clear hx hr gS qk np eb;cases e1:r.o.lj o
   ·have Li:=O (any_take_succ dT.o ZG.o (by rw[hq.o,e1];rfl));go_wp2_with (first|((with_reducible refine di 19 ?_);refine a_ rfl 133 (.tmp 18) rfl bk (k*13) rfl x _ hcell underlying133 rfl Iq.o ?_)|((with_reducible refine di 22 ?_);refine aH rfl 32 (.tmp 4) rfl w.heap.size rfl _ _ (0,0) _ hO3.o underlying32 rfl af ?_)|fail)
    go_roundw
    case rel=>exact⟨k+1,ab,bg,Li.o,r_⟩
    case measure=>simp[intOf];omega
   ·cases e2:r.proxy==proxy
    ·have Li:=O (any_take_succ dT.o ZG.o (by rw[hq.o,e1,e2];rfl));go_wp2_with (first|((with_reducible refine di 19 ?_);refine a_ rfl 133 (.tmp 18) rfl bk (k*13) rfl x _ hcell underlying133 rfl Iq.o ?_)|((with_reducible refine di 22 ?_);refine aH rfl 32 (.tmp 4) rfl w.heap.size rfl _ _ (0,0) _ hO3.o underlying32 rfl af ?_)|fail)
     go_roundw
     case rel=>exact⟨k+1,ab,bg,Li.o,r_⟩
     case measure=>simp[intOf];omega
    ·have htk:=O (Gv ZG.o dT.o (by rw[hq.o,e1,e2];rfl));obtain⟨rs,ho,hb⟩:=h3.waits;have ve:=O (show(rs.map bJ.cells).length=ws.length by rw[ai,hb.len]);have qG:=O (Gq base bk cw k (k+1) (rs.map bJ.cells) _ (by rw[ve.o];exact ho) ab (by rw[ve.o];omega));rw[ve.o,show((k+1:Nat):Int)=(k:Int)+1 from ab]at qG;have aog:bk<w.heap.size:=by obtain⟨cc,e⟩:=h.vZ (k:=bk) rfl;exact bj e
     have d1:=h3.c1;have Rw:=pd.trans r_;have b1v:=O (r_.keep P8.o id);have avb:w.heap.size+1<W.heap.size:=bj P8.o;have xb:W.heap.size<=wr.heap.size:=cL.size;have hne:∀j,dw b gv (.slice (some ⟨bk,0,none⟩) ws.length cw) j->j<w.heap.size:=fun j hj=>by
      rcases hj with hj|hj|hj
      ·omega
      ·obtain⟨cc,e⟩:=h.tY hj;exact bj e
      ·obtain⟨cc,e⟩:=h.vZ hj;exact bj e
     have hxz:=O (show(v_:bS).size=x.toArray.size from Vl.trans (by simp[lB]));have mM:=O (show x.toArray.all (·.oneCell')=true from bX (by rw[HX.o];exact xc.o));have hxa:=O (show(prog.info? 133).map (·.size)=some x.toArray.size by rw[aZ];exact Iq.o);clear r_
     go_wp2_with (first|((with_reducible refine di 19 ?_);refine a_ rfl 133 (.tmp 18) rfl bk (k*13) rfl x _ hcell underlying133 rfl Iq.o ?_)|((with_reducible refine di 22 ?_);refine aH rfl 32 (.tmp 4) rfl w.heap.size rfl _ _ (0,0) _ hO3.o underlying32 rfl af ?_)|fail)
     clear ir hcell c0 c1 c2 c3 d1 hO3 heq;generalize wr.alloc (.cells x.toArray 133)=V at *
     refine qG.o.mono ?_;rintro e w2⟨rfl,qX,dB⟩;obtain⟨h4,Ty,d2,e2'⟩:=Gx h3 hb (by exact qX) dB;obtain⟨l,hl⟩:∃l,l=ws.take k++ws.drop (k+1):=⟨_,rfl⟩;have hm:k+(ws.length-(k+1))=l.length:=by rw[hl,aN,aM,bK];omega
     rw[<-hl]at h4;rw[<-hl]at htk;rw[hm]at h4 Ty ⊢;clear hl hm;have Lc:rY base V (own (.slice (some ⟨bk,0,none⟩) ws.length cw)):=ho.off (ay _) ag;have Ld:rY base V (one bk):=fun j hj hl=>Lc j (by have e:j=bk:=hj;rw[e];rfl) hl;have zH:=dB.keep tR.o (fun h=>by have e:wr.heap.size=bk:=h;omega);have Vg:=dB.keep b1v.o (fun hh=>by have e:w.heap.size+1=bk:=hh;omega);have vA:=rF.o.mono (fun _ _ h=>h.fr dB Ld)
     have Vh:w2.heap[b]?=some (.cells #[gv,.slice (some ⟨bk,0,none⟩) ws.length cw] 89 (0,0)):=dB.keep h3.eL (fun h=>h3.wb (by have e:b=bk:=h;rw[e];rfl));have ks:Fr (one b) w2 (w2.setCell ⟨b,1,none⟩ (.slice (some ⟨bk,0,none⟩) l.length cw)):=(ae (one b) w2).setCell (p:=⟨b,1,none⟩) (fun _=>rfl) _;have Vi:rY base w2 (one b):=by
      rintro j rfl _;exact⟨lo,fun cc f e=>by rw[Vh]at e;cases e⟩
     have DZ:=O (ks.keep zH (fun h=>by have e:wr.heap.size=b:=h;omega));have Rx:=O (ks.keep Vg (fun h=>by have e:w.heap.size+1=b:=h;omega));have BN:=O (vA.mono (fun _ _ h=>h.fr ks Vi));have hFw:=O (show Fr (dw b gv (.slice (some ⟨bk,0,none⟩) ws.length cw)) w (w2.setCell ⟨b,1,none⟩ (.slice (some ⟨bk,0,none⟩) l.length cw))from fV (Rw.mono (fun _ _ h=>absurd h id)) Ty (fun _ _ h=>h))
     have ll:∀j,dw b gv (.slice (some ⟨bk,0,none⟩) l.length cw) j->dw b gv (.slice (some ⟨bk,0,none⟩) ws.length cw) j:=fun j hj=>by
      rcases hj with h|h|h
      ·exact Or.inl h
      ·exact Or.inr (Or.inl h)
      ·exact Or.inr (Or.inr h)
     have H4:=O h4;clear qG qX ho hb Vh ks Vi zH Vg vA Ty Ld Lc h3 Rw tR rF b1v h4;go_wp2_with (first|((with_reducible refine di 41 ?_);refine aH rfl 133 (.tmp 9) rfl wr.heap.size rfl _ x.toArray (0,0) _ DZ.o underlying133 rfl hxa.o ?_)|((with_reducible refine cW 133 ?_);refine aF rfl 133 (.tmp 6) (.tmp 41) rfl (w.heap.size+1) x.toArray rfl rfl _ v_ Rx.o hxa.o hxz.o mM.o ?_)|fail)
     refine aU (results_cell_tmp bC _ _ (w.heap.size+1) 133 x.toArray (0,0) _ rfl (aY _ (w.heap.size+1) _ _ _ _ Rx.o) underlying133 rfl hxa.o) rfl ?_;unfold nA;rw[htk.o]
     have hFr:Fr (one (w.heap.size+1)) (w2.setCell ⟨b,1,none⟩ (.slice (some ⟨bk,0,none⟩) l.length cw)) ((w2.setCell ⟨b,1,none⟩ (.slice (some ⟨bk,0,none⟩) l.length cw)).setRow (w.heap.size+1) x.toArray):=(ae (one (w.heap.size+1)) _).setRow (fun _=>rfl) _;have rO:rY base (w2.setCell ⟨b,1,none⟩ (.slice (some ⟨bk,0,none⟩) l.length cw)) (one (w.heap.size+1)):=by
      rintro j rfl _;exact⟨ab,fun cc f e=>by rw[Rx.o]at e;cases e⟩
     refine⟨⟨_,_,H4.o.fr hFr rO ?_ ?_ ?_,hFw.o.step hFr ?_,fun j hj=>Or.inl (ll j hj)⟩,r,by rw[HX.o];rfl,BN.o.mono (fun _ _ h=>h.fr hFr rO),xc.o⟩
     ·intro hh;have e:b=w.heap.size+1:=hh;omega
     ·intro j hj hh;have e:j=w.heap.size+1:=hh;have:=hne j (ll j (Or.inr (Or.inl hj)));omega
     ·intro j hj hh;have e:j=w.heap.size+1:=hh;have:=hne j (ll j (Or.inr (Or.inr hj)));omega
     ·intro j hj hh;have e:j=w.heap.size+1:=hh;omega
  ·have hs:=O (D3 (o:=o) (proxy:=proxy) (l:=ws) (by have h:=ZG.o;rw[aD ab]at h;exact h));have qf:=O (cL.keep P8.o id);have HF:=pd.trans cL;have hp:=kE.ait h (HF.setRow (g:=w.heap.size+1) (fun h=>absurd h ab) v_);go_wp2_with (first|((with_reducible refine cW 133 ?_);refine aF rfl 133 (.tmp 6) (.tmp 43) rfl (w.heap.size+1) v_ rfl rfl _ v_ qf.o af rfl P_ ?_)|fail)
   refine aU (results_cell_tmp bC _ _ (w.heap.size+1) 133 v_ (0,0) _ rfl (aY wr (w.heap.size+1) _ _ _ _ qf.o) underlying133 rfl af) rfl ?_;unfold nA;rw[hs.o];exact⟨hp,rfl⟩
def ZI(p:aj):aj:=p.extract 0 (Lib.lastIndexByte p 47+1).toNat
theorem lastIndexByte_bounds(s:aj)(c:Int): -1<=Lib.lastIndexByte s c/\Lib.lastIndexByte s c+1<=s.size:=by
 rcases Lib.lastIndexByte_spec s c with ⟨e,_⟩|⟨i,hi,e,_⟩
 ·rw[e];omega
 ·rw[e];omega
theorem ZJ(p:aj)(w:World)(hs:p.size<4611686018427387904):aB 117 #[.string p] w fun e w'=>e=.returned (.string (ZI p))/\w=w':=by
 have hbd:=lastIndexByte_bounds p 47;have hd:=O (show ZI p=p.extract 0 (Lib.lastIndexByte p 47+1).toNat from rfl);go_enter func117,ntmps117;go_wp2_with fail
 refine(strings_LastIndexByte p 47 hs w).mono ?_;rintro e w1⟨rfl,rfl⟩;generalize Lib.lastIndexByte p 47=k at *
 have h1:(0:Int)<=k+1:=ab;have h2:k+1<=(p.size:Int):=ab;go_wp2;go_ret;exact⟨by rw[hd.o];rfl,rfl⟩
theorem dv.lit(base:Nat)(w:World)(x:aj)(hk:k=w.heap.size):dv base (w.alloc (.cells #[.string x] 9)) (.slice (some ⟨k,0,none⟩) 1 1) [x]:=by
 subst hk;exact dv.aor base w x
def nX(a:fK bE)(proxy:Bool)(path:aj):bE :=
 if proxy then [⟨#[47]⟩]else if a.scheme≠1/\a.dom.length=0 then [⟨#[47]⟩]else if a.scheme=1 then [ZI path]else a.dom
def rq(base:Nat)(w:World)(l:bE)(e:Ending)(w':World):Prop:=∃v,e=.returned v/\dv base w' v l/\Fr aS w w'
theorem Rz(base:Nat)(r:fK Value)(a:fK bE)(proxy:Bool)(path:aj)(w:World)(hr:r.Reads (dv base w) a)(hs:path.size<4611686018427387904) :
  aB 60 #[.agg r.cells.toArray,.bool proxy,.string path] w (rq base w (nX a proxy path)):=by
 obtain⟨e1,e2,e3,e4,e5,e6,e7,A'⟩:=hr;obtain⟨ad,cd,xx⟩:=A'.rd.form;have hAC:r.cells=[.int .i64 a.scheme,.string r.aK,.string r.bq,.string r.cy,.bool r.cA,.string r.eH,.bool r.cN,.slice ad a.dom.length cd]:=by unfold fK.cells;rw[e1,xx]
 rw[xx]at A';have gS:Fr aS w (w.alloc (.cells #[.int .i64 a.scheme,.string r.aK,.string r.bq,.string r.cy,.bool r.cA,.string r.eH,.bool r.cN,.slice ad a.dom.length cd] 112)):=(ae aS w).alloc _;have sI:=A'.dm gS;rw[hAC];clear hAC e1 e2 e3 e4 e5 e6 e7 A' xx;cases proxy with
 |true =>
  have qx:=O (show nX a true path=[⟨#[47]⟩]from rfl);go_enter func60,ntmps60;go_wp2;go_ret;unfold rq;rw[qx.o];exact⟨_,rfl,dv.lit base _ _ aR,((ae aS w).alloc _).alloc _⟩
 |false =>
  by_cases h1:a.scheme=1
  ·have qx:=O (show nX a false path=[ZI path]by unfold nX;simp[h1]);go_enter func60,ntmps60;go_wp2_with fail
   refine(ZJ path _ hs).mono ?_;rintro e w1⟨rfl,rfl⟩;go_wp2;go_ret;unfold rq;rw[qx.o];exact⟨_,rfl,dv.lit base _ _ aR,((ae aS w).alloc _).alloc _⟩
  ·by_cases h2:a.dom.length=0
   ·have qx:=O (show nX a false path=[⟨#[47]⟩]by unfold nX;rw[aq ag,az ⟨h1,h2⟩]);have h2':((a.dom.length:Nat):Int)=0:=ab;go_enter func60,ntmps60;go_wp2;go_ret;unfold rq;rw[qx.o];exact⟨_,rfl,dv.lit base _ _ aR,((ae aS w).alloc _).alloc _⟩
   ·have qx:=O (show nX a false path=a.dom by unfold nX;rw[aq ag,aq (fun h=>h2 h.2),aq h1]);have qf:(a.scheme !=1)=true:=by simp[h1]
    have kB:(((a.dom.length:Nat):Int)==0)=false:=by simp;intro h;exact h2 (by rw[h];rfl)
    have CL:=O (rN base _ _ _ sI);go_enter func60,ntmps60;go_wp2_with fail
    refine CL.o.mono ?_;rintro e w1⟨a',c',rfl,XS,hf⟩;go_wp2;go_ret;unfold rq;rw[qx.o];exact⟨_,rfl,XS,gS.trans hf⟩
theorem Bb:(prog.info? 155).map (fun i=>(i.zero,i.size,i.bytes))=some (some (.agg Fm),12,144):=af
theorem RC{base:Nat}{w2 w4:World}{b:Nat}{v0 v:Value}{fs:List eo}{p:eo}{gg cap:Nat}(hl:base<=b)(hb:w2.heap[b]?=some (.cells #[v0] 92 (0,0)))(UP:¬own v b)(kQ:Fr (own v) w2 w4)
  (fa:w4.ownsRow base 155 12 (.slice (some ⟨gg,0,none⟩) (fs.length+1) cap) (fs.length+1) ((fs.map eo.cells).flatten++p.cells)) :
  eP base (w4.setCell ⟨b,0,none⟩ (.slice (some ⟨gg,0,none⟩) (fs.length+1) cap)) b (.slice (some ⟨gg,0,none⟩) (fs.length+1) cap) (fs++[p]):=by
 refine oV hl (kQ.keep hb UP) ⟨?_,?_⟩
 ·intro x hx;obtain⟨q,_,rfl⟩:=b_.1 hx;exact⟨rfl,q.tZ⟩
 ·rw[bG,en,aN,ai];simpa using fa
def aiy(base:Nat)(w1:World)(b:Nat)(v:Value)(ps ls:List eo)(t:Value)(wr:World):Prop :=
 ∃k vk,k<=ls.length/\t=.int .i64 k/\eP base wr b vk ((ls.take k).foldl E' ps)/\Fr (iC b v) w1 wr/\∀j,iC b vk j->iC b v j\/w1.heap.size<=j
theorem RD{ps ls:List eo}{p:eo}(h:ls[k]?=some p):(ls.take (k+1)).foldl E' ps=((ls.take k).foldl E' ps).filter (fun q=>!p.like q)++[p]:=by
 rw[dZ h,List.foldl_append];rfl
theorem rf(ps:List eo)(f:eo->Bool):(ps.map eo.cells).filter (fun x=>!f (IB x))=(ps.filter (fun q=>!f q)).map eo.cells:=by
 rw[List.filter_map];rfl
theorem RE{S:dC}{U w3:World}{x:aX}{t:TypeId}(hU:U.heap[n]?=some (.cells x.toArray t (0,0)))(hf:Fr S U w3)(hn:¬S n):∀j u,x[j]?=some u->w3.cell? ((⟨n,0,none⟩:Addr).add j)=some u:=by
 intro j u hj;have h:=hf.keep hU hn;have e:(Addr.add ⟨n,0,none⟩ j)=⟨n,j,none⟩:=by unfold Addr.add;split<;>simp_all
 rw[e];simp only[World.cell?,h];simpa using hj
theorem Ll(base:Nat)(w:World)(b:Nat)(v:Value)(ps:List eo)(lv:Value)(ls:List eo)(now:Int)(h:eP base w b v ps)(hl:qN w lv ls)(rR:ls≠ []->∀k,lv.ownBlock=some k->¬iC b v k)(hlen:ps.length+ls.length<1000000) :
  aB 67 #[.pointer (some ⟨b,0,none⟩),lv,.int .i64 now] w fun e w'=>e=.returned (.tuple #[])/\D6 base w b v (uu ps ls now) w':=by
 obtain⟨al,cl,hlf⟩:=dK hl;rw[ai]at hlf;subst hlf;obtain⟨w1,oy⟩:∃w1,w1=w.alloc (.cells #[.int .i64 now] 3):=⟨_,rfl⟩;have dr:Fr aS w w1:=by rw[oy];exact(ae _ _).alloc _
 have Ay:w1.heap[w.heap.size]?=some (.cells #[.int .i64 now] 3 (0,0)):=by rw[oy];exact aC _ _
 have Cf:w.heap.size<w1.heap.size:=bj Ay;have h1:=h.dm dr;have hl1:qN w1 (.slice al ls.length cl) ls:=bh hl dr;have HLT:=O (show∀k,iC b v k->k<w.heap.size from fun k hk=>h.jr hk);have Ii:=O oy;have lC:=O dr;have EU:=O Ay;clear hl oy dr Ay h;go_enter func67,ntmps67;go_wp2_with fail
 rw[<-Ii.o];go_loopw[11] (aiy base w1 b v ps ls) (fun t _=>ls.length-(intOf t).toNat)
 case atStart=>exact⟨0,v,aQ _,rfl,h1,ae _ _,fun _ h=>Or.inl h⟩
 case round =>
  obtain⟨k,vk,hk,rfl,hb,cL,ET⟩:=hrel;have lo:=hb.low;have EN:=Kk (ls.take k) ps;rw[aM]at EN;by_cases fo:k<ls.length
  ·have pq:(k:Int)<(ls.length:Int):=ab;have dT:=O (List.getElem?_eq_getElem fo);generalize ls[k]=p at dT;have mj:=O (RD (ps:=ps) dT.o);generalize (ls.take k).foldl E' ps=fs at hb EN mj;have lY:dY 12 wr (.slice al ls.length cl) (ls.map eo.cells):=dY.fr hl1 cL (rR (fun e=>by rw[e]at dT;have:=dT.o;simp at this));rcases lY.2 with ⟨_,_,_,e,_⟩|⟨bk,of,c,hf,g1,g2,g3,g4⟩
   ·have:ls.length=0:=by have:=ar List.length e;simpa using this
    omega
   rw[ai]at hf g1;cases hf;unfold maxLen at g2;obtain⟨x,hx⟩:∃x,x=p.cells:=⟨_,rfl⟩;have lB:x.length=12:=by rw[hx];rfl
   have eb:∀u∈x,u.oneCell'=true:=by rw[hx];exact p.tZ
   have hcell:=g4 k x (by rw[List.getElem?_map,dT.o,hx];rfl);have ir:=fun W=>run_storeCells_new (P:=prog) W 155 Fm x (by rw[lB];rfl) eb;have DN:(prog.info? 155).map (·.size)=some x.length:=Ba lB;clear g4 lY;have HX:=O hx;have Iq:=O DN;clear hx DN;go_wp2_with (first|((with_reducible refine di 14 ?_);refine a_ rfl 155 (.tmp 13) rfl bk (of+k*12) rfl x _ hcell underlying155 rfl Iq.o ?_)|fail)
   have dB:Fr aS wr (wr.alloc (.cells x.toArray 155)):=(ae _ _).alloc _;have C_:(wr.alloc (.cells x.toArray 155)).heap[wr.heap.size]?=some (.cells x.toArray 155 (0,0)):=aC _ _;have jq:=cL.alloc (.cells x.toArray 155);have kB:=hb.dm dB;have X9:¬own vk wr.heap.size:=fun hk=>by have:=hb.D7 hk;omega
   have j6:b<wr.heap.size:=hb.lt;have Tg:=O (show wr.heap.size<(wr.alloc (.cells x.toArray 155)).heap.size from bj C_);clear ir hcell dB;generalize wr.alloc (.cells x.toArray 155)=W2 at *
   obtain⟨ak,ck,TC⟩:=kB.form;subst TC;obtain⟨Lm,ZL⟩:∃Lm,Lm=fs.filter (fun q=>!p.like q):=⟨_,rfl⟩;have zC:Lm.length<=fs.length:=by rw[ZL];exact bU _ _
   rw[<-ZL]at mj
   have HK:=O (show∀U,Fr (iC b (.slice ak fs.length ck)) W2 U->(U.cell? ⟨wr.heap.size,0,none⟩=some (.bool p.cX.aE)/\U.cell? ⟨wr.heap.size,1,none⟩=some (.string p.cX.host)/\U.cell? ⟨wr.heap.size,2,none⟩=some (.int .i64 p.cX.port)/\U.cell? ⟨wr.heap.size,3,none⟩=some (.bool p.o.aE)/\U.cell? ⟨wr.heap.size,4,none⟩=some (.string p.o.host)/\U.cell? ⟨wr.heap.size,5,none⟩=some (.int .i64 p.o.port)/\U.cell? ⟨wr.heap.size,6,none⟩=some (.string p.path)/\U.cell? ⟨wr.heap.size,7,none⟩=some (.string p.query)/\U.cell? ⟨wr.heap.size,8,none⟩=some (.bool p.fN)/\U.cell? ⟨wr.heap.size,9,none⟩=some (.string p.method)/\U.cell? ⟨wr.heap.size,10,none⟩=some (.string p.head)/\U.cell? ⟨wr.heap.size,11,none⟩=some (.int .i64 p.pT))from fun U hU=>by
    have j2:=hU.keep C_ (fun h=>by
     rcases h with h|h
     ·omega
     ·exact X9 h)
    rw[HX.o]at j2;have hc:∀i u,p.cells[i]?=some u->U.cell? ⟨wr.heap.size,i,none⟩=some u:=fun i u hu=>by simp only[World.cell?,j2];simpa using hu
    exact⟨hc 0 _ rfl,hc 1 _ rfl,hc 2 _ rfl,hc 3 _ rfl,hc 4 _ rfl,hc 5 _ rfl,hc 6 _ rfl,hc 7 _ rfl,hc 8 _ rfl,hc 9 _ rfl,hc 10 _ rfl,hc 11 _ rfl⟩)
   have HBC:=O (show∀U,Fr (own (.slice ak fs.length ck)) W2 U->U.cell? ⟨b,0,none⟩=some (.slice ak fs.length ck)from fun U hU=>by
    have j1:=hU.keep kB.eL kB.nb;simp[World.cell?,j1])
   have Jv:(⟨b,0,none⟩:Addr).block<W2.heap.size->iC b (.slice ak fs.length ck) (⟨b,0,none⟩:Addr).block:=fun _=>Or.inl rfl;have d0:=HBC.o W2 (ae _ _);have dA:∀o:Obj,(W2.alloc o).cell? ⟨b,0,none⟩=some (.slice ak fs.length ck):=fun o=>HBC.o _ ((ae _ _).alloc o);have aiA:=O (show∀U,Fr (own (.slice ak fs.length ck)) W2 U->U.frozen? ⟨b,0,none⟩=false from fun U hU=>by
    have j1:=hU.keep kB.eL kB.nb;simp[World.frozen?,j1])
   have fD:=O (show∀U,Fr aS W2 U->aB 135 #[.slice ak fs.length ck,.func (.func 137) #[] #[.pointer (some ⟨wr.heap.size,0,none⟩)]] U fun e w'=>∃a c,e=.returned (.slice a Lm.length c)/\OwnRows base 155 12 w' (.slice a Lm.length c) (Lm.map eo.cells)/\Fr (own (.slice ak fs.length ck)) U w'/\own (.slice a Lm.length c)=own (.slice ak fs.length ck)from fun U hU=>by
    have hd:=pW base 137 #[.pointer (some ⟨wr.heap.size,0,none⟩)] (fun y=>p.like (IB y)) (.slice ak fs.length ck) (fs.map eo.cells) U call137 (fun y hy u hu=>by
     obtain⟨q,_,rfl⟩:=b_.1 hy;have hpu:=hu.keep (hU.keep C_ id) X9;rw[HX.o]at hpu;exact Vv p q wr.heap.size u hpu) (kB.rows.fr hU (fun _ _ h=>h))
    rw[rf,ai, <-ZL]at hd;exact hd)
   clear ZL;obtain⟨i0,qA,po,k_,lp⟩:=info_parts Bb;have hnW:¬own (.slice ak fs.length ck) W2.heap.size:=fun hk=>by have:=kB.D7 hk;omega
   have aou:base<=W2.heap.size:=by have:=Tg.o;omega
   have P0:=HK.o W2 (ae _ _);obtain⟨x0,x1,x2,x3,x4,x5,x6,x7,x8,x9,ZA,ZB⟩:=P0;go_region_law (first
     |((with_reducible refine mP ⟨some 21,_,_,_,_,_⟩ ?_)
       refine AM rfl 135 _ (by go_simp) (fD.o _ (by repeat(first|exact ae _ _|apply aA|apply bz))) ?_
       intro e w3 qG
       obtain⟨a3,c3,rfl,fu,iz,JB⟩:=qG
       refine⟨_,rfl,?_⟩
       have iA:Fr (own (.slice ak fs.length ck)) W2 w3:=fV (S:=own (.slice ak fs.length ck)) (by repeat(first|exact ae _ _|apply aA|apply bz)) iz (fun _ _ h=>h)
       have aiB:Fr (iC b (.slice ak fs.length ck)) W2 w3:=iA.mono (fun _ _ h=>Or.inr h)
       have Vx:w3.ownsRow base 155 12 (.slice a3 Lm.length c3) Lm.length (Lm.map eo.cells).flatten:=by
         have h:=fu.2
         rw[ai]at h
         exact h
       have Ib:=HK.o w3 aiB
       have tu:base<=w3.heap.size:=by have:=iA.size;omega)
     |((with_reducible refine mP ⟨some 24,_,_,_,_,_⟩ ?_)
       (first
         |refine step_append_lies _ bC _ _ _ bC base 155 i0 _ 12 144 underlying90 qA po k_ lp rfl ab (.slice a3 Lm.length c3) Lm.length _ bC (by repeat(first|exact Vx|apply World.ownsRow.alloc|apply World.ownsRow.drew)) ⟨w3.heap.size,0,none⟩ 1 1 p.cells bC bC (kR w3 p.cells _) p.tZ ab fx ab bI (w3.heap.size+1) aR ?_
         |refine step_append_lies _ bC _ _ _ bC base 155 i0 _ 12 144 underlying90 qA po k_ lp rfl ab (.slice a3 Lm.length c3) Lm.length _ bC (by repeat(first|exact Vx|apply World.ownsRow.alloc|apply World.ownsRow.drew)) ⟨W2.heap.size,0,none⟩ 1 1 p.cells bC bC (RE (by exact aC _ _) iz hnW) p.tZ ab fx ab ab (w3.heap.size) aR ?_)
       intro gg cap w4 fa jC dT Lb
       have jZ:Fr (own (.slice ak fs.length ck)) W2 w4:=fq (by repeat(first|exact iA|apply aA|apply bz)) jC (fun k hk _=>by rw[<-JB];exact hk)
       have aiC:Fr (iC b (.slice ak fs.length ck)) W2 w4:=jZ.mono (fun _ _ h=>Or.inr h)
       have k4:=HBC.o w4 jZ
       have e4:=aiA.o w4 jZ))
   all_goals
    have h5:=RC (v:=.slice ak fs.length ck) lo kB.eL kB.nb jZ fa;rw[<-mj.o]at h5;have hF5:Fr (iC b v) w1 (w4.setCell ⟨b,0,none⟩ (.slice (some ⟨gg,0,none⟩) (Lm.length+1) cap)):=jq.step (aiC.setCell (p:=⟨b,0,none⟩) Jv _) (fun j hj hb=>by
     rcases ET j hb with h|h
     ·exact h
     ·omega)
    have T7:w1.heap.size<=w3.heap.size:=by have h1:=jq.size;have h2:=iA.size;omega
    have Ru:∀j,iC b (.slice (some ⟨gg,0,none⟩) (Lm.length+1) cap) j->iC b v j\/w1.heap.size<=j:=by
     rintro j(hj|hj)
     ·exact Or.inl (Or.inl hj)
     ·have e:gg=j:=by simpa[own,Value.ownBlock]using hj
      subst e;rcases dT with dT|dT
      ·exact ET gg (Or.inr (by rw[<-JB];exact dT))
      ·exact Or.inr ab
    have H5:=O (And.intro h5 (And.intro hF5 Ru));clear fD HK HBC aiA fa jC jZ aiC iA aiB Vx k4 e4 Ib x0 x1 x2 x3 x4 x5 x6 x7 x8 x9 ZA ZB d0 dA Jv h5 hF5 Ru dT JB fu iz;generalize w4.setCell ⟨b,0,none⟩ (.slice (some ⟨gg,0,none⟩) (Lm.length+1) cap)=w5 at *
    go_wp2;go_roundw
    case rel=>exact⟨k+1,_,ab,bg,H5.o.1,H5.o.2.1,H5.o.2.2⟩
    case measure=>simp[intOf];omega
  ·have pq:¬(k:Int)<(ls.length:Int):=ab;have QN:ls.take k=ls:=aD ab;rw[QN]at hb EN;obtain⟨fs,kH⟩:∃fs,fs=ls.foldl E' ps:=⟨_,rfl⟩;rw[<-kH]at hb EN;have ZC:¬own vk w.heap.size:=fun hk=>by
    rcases ET _ (Or.inr hk)with h|h
    ·have:=HLT.o _ h;omega
    ·omega
   have aov:=cL.keep EU.o (fun hk=>by have:=HLT.o _ hk;omega);have hd:=pW base 139 #[.pointer (some ⟨w.heap.size,0,none⟩)] (fun y=>!(IB y).alive now) vk (fs.map eo.cells) wr call139 (fun y hy u hu=>by
    obtain⟨q,_,rfl⟩:=b_.1 hy;exact Vw q now w.heap.size u (hu.keep aov ZC)) hb.rows
   rw[rf fs (fun q=>!q.alive now),ai]at hd;obtain⟨ys,Kq⟩:∃ys,ys=fs.filter (fun q=>!!q.alive now):=⟨_,rfl⟩;rw[<-Kq]at hd;have hyl:ys.length<=fs.length:=by rw[Kq];exact bU _ _
   have gK:=O (show uu ps ls now=ys.drop (ys.length-32)by
    rw[Kq,kH];unfold uu;simp only[Bool.not_not])
   obtain⟨ak,ck,TC⟩:=hb.form;have hb':=hb;subst TC;have sM:=O hd;have c0:=hb.c0;have e0:=hb.free 0;have HB:=O hb;have tA:=O cL;have TD:=O ET;have avh:b<w1.heap.size:=Nat.lt_trans (HLT.o b (Or.inl rfl)) Cf;clear hd Kq kH hb hb' cL ET;go_wp2_with fail
   refine sM.o.mono ?_;rintro e w2⟨a2,c2,rfl,qX,dB,JB⟩;have Ln:=dB.keep HB.o.eL HB.o.nb;have d0:w2.cell? ⟨b,0,none⟩=some (.slice ak fs.length ck):=by simp[World.cell?,Ln]
   have e2:w2.frozen? ⟨b,0,none⟩=false:=by simp[World.frozen?,Ln]
   have h3:=oV HB.o.low Ln qX;have EW:Fr (iC b v) w1 (w2.setCell ⟨b,0,none⟩ (.slice a2 ys.length c2)):=(tA.o.step dB (fun j hj ho=>by
    rcases TD.o j (Or.inr ho)with h|h
    ·exact h
    ·omega)).setCell (p:=⟨b,0,none⟩) (fun _=>Or.inl rfl) _
   have aiD:∀j,iC b (.slice a2 ys.length c2) j->iC b v j\/w1.heap.size<=j:=by
    rintro j(hj|hj)
    ·exact Or.inl (Or.inl hj)
    ·exact TD.o j (Or.inr (by rw[<-JB];exact hj))
   have H3:=O (And.intro h3 (And.intro EW aiD));have d3:=h3.c0;have e3:=h3.free 0;clear h3 EW aiD sM qX Ln c0 e0 dB HB tA TD JB;by_cases h32:32<ys.length
   ·have aow:(32:Int)<(ys.length:Int):=ab;have p_:(0:Int)<(ys.length:Int)-32:=ab;obtain⟨n,hn⟩:∃n:Nat,ys.length=n+32:=⟨ys.length-32,ab⟩;obtain⟨gg,rfl⟩:∃gg,a2=some ⟨gg,0,none⟩:=by
     rcases H3.o.1.rows.2.2 with ⟨hv,hq⟩|⟨g,cap,cur,hv,_⟩
     ·rw[ai]at hq;omega
     ·injection hv with h1;exact⟨g,h1⟩
    have lY:=H3.o.1.rows;have sN:(ys.map eo.cells).length=ys.length:=ai _;have qG:=RB base gg c2 0 n (ys.map eo.cells) (w2.setCell ⟨b,0,none⟩ (.slice (some ⟨gg,0,none⟩) ys.length c2)) (by rw[sN];exact lY) ab ab;rw[sN]at qG;have Vy:=O qG;have HN:=O hn;clear qG hn lY sN;go_wp2_with fail
    rw[show((ys.length:Int)-32)=(n:Int)from by have:=HN.o;omega];clear d0 e2;generalize w2.setCell ⟨b,0,none⟩ (.slice (some ⟨gg,0,none⟩) ys.length c2)=w3 at *
    refine Vy.o.mono ?_;rintro e w6⟨rfl,zm,nF⟩;have eb:∀j,one gg j->own (.slice (some ⟨gg,0,none⟩) ys.length c2) j:=fun j hj=>by have e:j=gg:=hj;rw[e];rfl
    have ZM:=nF.keep H3.o.1.eL (fun h=>H3.o.1.nb (eb _ h));have d6:w6.cell? ⟨b,0,none⟩=some (.slice (some ⟨gg,0,none⟩) ys.length c2):=by simp[World.cell?,ZM]
    have e6:w6.frozen? ⟨b,0,none⟩=false:=by simp[World.frozen?,ZM]
    rw[List.take_zero,List.nil_append, <-List.map_drop,bw]at zm;rw[bw];have h7:=oV H3.o.1.low ZM zm;have Tx:Fr (iC b v) w1 (w6.setCell ⟨b,0,none⟩ (.slice (some ⟨gg,0,none⟩) (ys.length-n) c2)):=(H3.o.2.1.step nF (fun j hj ho=>by
     rcases H3.o.2.2 j (Or.inr (eb j ho))with h|h
     ·exact h
     ·omega)).setCell (p:=⟨b,0,none⟩) (fun _=>Or.inl rfl) _
    have ZE:∀j,iC b (.slice (some ⟨gg,0,none⟩) (ys.length-n) c2) j->iC b v j\/w1.heap.size<=j:=by
     rintro j(hj|hj)
     ·exact Or.inl (Or.inl hj)
     ·exact H3.o.2.2 j (Or.inr hj)
    have H7:=O (And.intro h7 (And.intro Tx ZE));clear h7 Tx ZE zm nF ZM Vy d3 e3;go_wp2;go_end0;refine⟨rfl,_,by rw[gK.o,show ys.length-32=n from by have:=HN.o;omega];exact H7.o.1,fV (lC.o.mono (fun _ _ h=>absurd h id)) H7.o.2.1 (fun _ _ h=>h),fun j hj=>?_⟩;rcases H7.o.2.2 j hj with h|h
    ·exact Or.inl h
    ·exact Or.inr ab
   ·have aow:¬(32:Int)<(ys.length:Int):=ab;have p_:¬(0:Int)<(ys.length:Int)-32:=ab;go_wp2;go_end0;refine⟨rfl,_,by rw[gK.o,show ys.length-32=0 from ab,eG];exact H3.o.1,fV (lC.o.mono (fun _ _ h=>absurd h id)) H3.o.2.1 (fun _ _ h=>h),fun j hj=>?_⟩;rcases H3.o.2.2 j hj with h|h
    ·exact Or.inl h
    ·exact Or.inr ab
structure nt.Fit (x:nt):Prop where
 scheme:x.scheme.length<=100000
 token:x.token.length<=100000
 tP:x.params.length<=16
 zg:∀p∈x.params,p.1.length<=99999/\p.2.length<=99999
def lM(w:World)(v:Value)(ps:List jz):Prop:=dY 2 w v (ps.map ou)
def Lw(w:World)(r:Lu)(x:nt):Prop:=r.1=bA x.scheme/\r.2.1=bA x.token/\lM w r.2.2 x.params
def uJ(w:World)(v:Value)(xs:List nt):Prop:=∃rs:List Lu,dY 3 w v (rs.map Bd)/\lg (Lw w) rs xs
theorem VD.rd{x:nt}(h:VD base w r x):Lw w r x:=⟨h.1,h.2.1,h.2.2.at⟩
theorem lq.at{xs:List nt}(h:lq base w v xs):uJ w v xs:=by
 obtain⟨rs,h1,h2⟩:=h;exact⟨rs,h1.at,h2.mono (fun _ _ h=>h.rd)⟩
theorem Lw.fI{x:nt}(h:Lw w r x)(hf:Fr aS w w'):Lw w' r x:=⟨h.1,h.2.1,bh h.2.2 hf⟩
theorem uJ.fI{xs:List nt}(h:uJ w v xs)(hf:Fr aS w w'):uJ w' v xs:=by
 obtain⟨rs,h1,h2⟩:=h;exact⟨rs,h1.fI hf,h2.mono (fun _ _ h=>h.fI hf)⟩
theorem uJ.form{xs:List nt}(h:uJ w v xs):∃a c,v=.slice a xs.length c:=by
 obtain⟨rs,h1,h2⟩:=h;obtain⟨a,c,e⟩:=h1.form;exact⟨a,c,by rw[e,ai,h2.len]⟩
theorem lM.form(h:lM w v ps):∃a c,v=.slice a ps.length c:=by
 obtain⟨a,c,e⟩:=dK h;exact⟨a,c,by rw[e,ai]⟩
theorem lM.cells(h:lM w (.slice a n c) ps)(hk:ps[k]?=some p) :
  ∃bk o,a=some ⟨bk,o,none⟩/\n<=c/\c<=maxLen/\w.cell? ⟨bk,o+k*2,none⟩=some (.string (bA p.1))/\w.cell? ⟨bk,o+k*2+1,none⟩=some (.string (bA p.2)):=by
 have hl:=(List.getElem?_eq_some_iff.1 hk).1;rcases h.2 with ⟨_,_,_,e,_⟩|⟨bk,o,c',hf,h1,h2,h3,h4⟩
 ·have:ps.length=0:=by have:=ar List.length e;simpa using this
  omega
 ·cases hf;have hc:=h4 k (ou p) (by rw[List.getElem?_map,hk];rfl);exact⟨bk,o,rfl,h1,h2,hc 0 _ rfl,hc 1 _ rfl⟩
def aer(ps:List jz)(name:Bs):Value:=.tuple #[.string (bA ((kr ps name).getD [])),.bool (kr ps name).isSome]
theorem VJ{n:Bs}(h:ps[k]?=some p)(hp:dJ p.1 n=true)(hn:(ps.take k).any (fun q=>dJ q.1 n)=false):kr ps n=some p.2:=by
 unfold kr;have:ps.find? (fun q=>dJ q.1 n)=some p:=by
  induction ps generalizing k with
  |nil=>simp at h
  |cons a l ih =>
   cases k with
   |zero=>simp at h;subst h;simp[hp]
   |succ k =>
    simp only[List.take_succ_cons,List.any_cons,eM]at hn;rw[List.find?_cons,hn.1];exact ih (by simpa using h) hn.2
 rw[this];rfl
theorem RI{n:Bs}(hn:ps.any (fun q=>dJ q.1 n)=false):kr ps n=none:=by
 unfold kr;have:ps.find? (fun q=>dJ q.1 n)=none:=by
  rw[List.find?_eq_none];intro q hq;rw[eY]at hn;exact hn q hq
 rw[this];rfl
def aiT(ps:List jz)(n:Bs)(w:World)(t:Value)(wr:World):Prop:=∃k:Nat,k<=ps.length/\t=.int .i64 k/\(ps.take k).any (fun q=>dJ q.1 n)=false/\Fr aS w wr
def Qb(ps:List jz):Prop:=ps.length<=1000000/\∀p∈ps,p.1.length<17592186044416/\p.2.length<17592186044416
theorem Z3(sc tok:aj)(pv:Value)(ps:List jz)(name:aj)(w:World)(h:lM w pv ps)(hz:Qb ps)(hn:name.size<17592186044416) :
  aB 172 #[.agg #[.string sc,.string tok,pv],.string name] w fun e w'=>e=.returned (aer ps name.data.toList)/\Fr aS w w':=by
 obtain⟨av,cv,hv⟩:=h.form;subst hv;obtain⟨w1,oy⟩:∃w1,w1=w.alloc (.cells #[.string sc,.string tok,.slice av ps.length cv] 198):=⟨_,rfl⟩;have dr:Fr aS w w1:=by rw[oy];exact(ae _ _).alloc _
 have Gj:lM w1 (.slice av ps.length cv) ps:=bh h dr;have Ii:=O oy;have HZ:=O hz;have MP:=hz.1;clear oy h hz;go_enter func172,ntmps172;go_wp2_with fail
 rw[<-Ii.o];go_loopw[11] (aiT ps name.data.toList w1) (fun t _=>ps.length-(intOf t).toNat)
 case atStart=>exact⟨0,aQ _,rfl,rfl,ae _ _⟩
 case round =>
  obtain⟨k,hk,rfl,Jz,cL⟩:=hrel;have HN:=O Jz;clear Jz;by_cases fo:k<ps.length
  ·have pq:(k:Int)<(ps.length:Int):=ab;have dT:=O (List.getElem?_eq_getElem fo);have XV:=O (HZ.o.2 _ (bN fo));generalize ps[k]=q at dT XV;obtain⟨nm,vl⟩:=q;obtain⟨bk,of,rfl,h1,h2,c0,c1⟩:=lM.cells (bh Gj cL) dT.o;unfold maxLen at h2;simp only at c0 c1;obtain⟨wb,j6⟩:∃wb,wb=wr.alloc (.cells #[.string (bA nm),.string (bA vl)] 171):=⟨_,rfl⟩;have ks:Fr aS wr wb:=by rw[j6];exact(ae aS wr).alloc _
   have xy:wb.heap[wr.heap.size]?=some (.cells #[.string (bA nm),.string (bA vl)] 171 (0,0)):=by rw[j6];exact aC _ _
   have qV:=O j6;clear j6;go_wp2_with fail
   rw[<-qV.o];refine(mA (bA nm) name wb (by have h:=XV.o.1;exact h) hn).mono ?_;rintro e w8⟨rfl,sH⟩;rw[fU];have Q0:=O ((cL.trans ks).trans sH);cases pj:dJ nm name.data.toList
   ·have qe:=O (vP dT.o HN.o pj);go_wp2;go_roundw
    case rel=>exact⟨k+1,ab,bg,qe.o,Q0.o⟩
    case measure=>simp[intOf];omega
   ·have HE:=O (VJ dT.o pj HN.o);have hb8:=sH.keep xy id;have c1:w8.cell? ⟨wr.heap.size,1,none⟩=some (.string (bA vl)):=by simp[World.cell?,hb8]
    go_wp2;go_ret2;refine⟨?_,dr.trans Q0.o⟩;unfold aer;rw[HE.o];rfl
  ·have pq:¬(k:Int)<(ps.length:Int):=ab;have HE:=O (show kr ps name.data.toList=none from RI (by have h:=HN.o;rw[aD ab]at h;exact h));go_wp2;go_ret2;refine⟨?_,dr.trans cL⟩;unfold aer;rw[HE.o];rfl
theorem uJ.cells{xs:List nt}{x:nt}(h:uJ w (.slice a n c) xs)(hk:xs[k]?=some x) :
  ∃bk o pv,a=some ⟨bk,o,none⟩/\n<=c/\c<=maxLen/\w.cell? ⟨bk,o+k*3,none⟩=some (.string (bA x.scheme))/\w.cell? ⟨bk,o+k*3+1,none⟩=some (.string (bA x.token))/\w.cell? ⟨bk,o+k*3+2,none⟩=some pv/\lM w pv x.params:=by
 obtain⟨rs,hr,hb⟩:=h;have hl:=(List.getElem?_eq_some_iff.1 hk).1;have ve:=hb.len;obtain⟨r,yL⟩:∃r,rs[k]?=some r:=⟨_,List.getElem?_eq_getElem ab⟩;obtain⟨x',Ug,e1,e2,e3⟩:=hb.get yL;rw[hk]at Ug;cases Ug;rcases hr.2 with ⟨_,_,_,e,_⟩|⟨bk,o,c',hf,h1,h2,h3,h4⟩
 ·have:rs.length=0:=by have:=ar List.length e;simpa using this
  omega
 ·cases hf;have hc:=h4 k (Bd r) (by rw[List.getElem?_map,yL];rfl);exact⟨bk,o,r.2.2,rfl,h1,h2,by rw[<-e1];exact hc 0 _ rfl,by rw[<-e2];exact hc 1 _ rfl,hc 2 _ rfl,e3⟩
open Go.ChangeShapes Go.WideShapes Go.ChangeAt Go.RowKit Go.Deep
variable {H : Type} {enc : TypeId × Value → H} {W : World}
structure Xu (w:World) (r:gu Value) (hs:List ig):Prop where
 ey:oL w r.ey hs
 tP:hs.length<=140737488355328
 small:∀p∈hs,p.1.size<=140737488351232/\p.2.size<=140737488351232
 sized:r.Mo
 body:r.body.size<=140737488351232
 part:(Lit.int .i64 r.part).wf=true
 VN:(Lit.int .i64 r.cX.port).wf=true
 aiV:(Lit.int .i64 r.o.port).wf=true
theorem Xv{fuel:Nat}{cs:aX}{x:DataW H×List MemPlace}(h:DataW.trod enc prog W 0 (fun _=>true) true fuel 37 cs=some x) :
  ∃b:gu Value×List ig,(cs=b.1.cells/\oL W b.1.ey b.2/\(Lit.int .i64 b.1.part).wf=true/\(Lit.int .i64 b.1.cX.port).wf=true/\(Lit.int .i64 b.1.o.port).wf=true)/\cs.length=13/\(∀u∈cs,u.oneCell'=true) /\
   (o_ prog 37 x.1->Xu W b.1 b.2):=by
 obtain⟨hl,n,hf⟩:=nZ underlying37 h;rw[Hb]at hl;obtain⟨c0,c1,c2,c3,c4,c5,c6,c7,c8,c9,GA,TB,c12,rfl⟩:=akJ hl;obtain⟨y0,h0,l0⟩:=hf 0 3 0 _ rfl pR;obtain⟨y1,h1,l1⟩:=hf 1 32 1 _ rfl Bv;obtain⟨y2,h2,l2⟩:=hf 2 34 4 _ rfl Ha;obtain⟨y3,h3,l3⟩:=hf 3 9 9 _ rfl iU;obtain⟨y4,h4,l4⟩:=hf 4 35 10 _ rfl OX;obtain⟨y5,h5,l5⟩:=hf 5 4 11 _ rfl uS;obtain⟨y6,h6,l6⟩:=hf 6 9 12 _ rfl iU
 simp only[List.drop,List.take]at h0 h1 h2 h3 h4 h5 h6;obtain⟨b0,e0,w0⟩:=kG underlying3 h0;obtain⟨o,e1,w1,s1⟩:=Mp h1;obtain⟨o2,pa,qu,e2,w2,s2⟩:=Xt h2;obtain⟨b3,e3,w3⟩:=ft underlying9 h3;obtain⟨v4,ps,e4,hr,hs⟩:=Je h4;obtain⟨b5,e5⟩:=nN underlying4 h5;obtain⟨b6,e6,w6⟩:=ft underlying9 h6;unfold gA.cells at e1 e2;simp only[List.cons_append,List.nil_append,fF,iM]at e0 e1 e2 e3 e4 e5 e6
 obtain⟨rfl,rfl,rfl⟩:=e1;obtain⟨rfl,rfl,rfl,rfl,rfl⟩:=e2;subst e0 e3 e4 e5 e6;refine⟨(⟨b0,o,o2,pa,qu,b3,GA,b5,b6⟩,ps),⟨rfl,hr,w0,w1,w2⟩,rfl,?_,fun hL=>?_⟩
 ·intro u hu;obtain⟨a,c,ev⟩:=hr.form;simp only[bB,cz,dX]at hu;rcases hu with rfl|rfl|rfl|rfl|rfl|rfl|rfl|rfl|rfl|rfl|rfl|rfl|rfl<;>first|rfl|(rw[ev];rfl)
 ·have hk:reachBytes=140737488351232:=rfl;obtain⟨g1,g2⟩:=hs (l4 hL);have q2:=s2 (l2 hL);have q1:=s1 (l1 hL);exact⟨hr,by show ps.length<=_;omega,g2,⟨w3 (l3 hL),q2.2.1,q2.2.2,q2.1,q1⟩,w6 (l6 hL),w0,w1,w2⟩
theorem gi.rows(h:gi base w v gs):∃rs:List (aP Value),dY 16 w v (rs.map aP.cells)/\lg (aP.Reads (fP w)) rs gs/\∀g∈gs,g.a.dom.length<=9223372036854775807/\g.paths.length<=9223372036854775807:=by
 obtain⟨rs,h1,h2⟩:=h;refine⟨rs,h1.at,h2.mono (fun _ _ h=>h.mono (fun _ _ h=>h.rd)),fun g hg=>?_⟩;obtain⟨k,hk⟩:=List.getElem?_of_mem hg;obtain⟨r,hr⟩:∃r,rs[k]?=some r:=⟨_,List.getElem?_eq_getElem (by rw[h2.len];exact(List.getElem?_eq_some_iff.1 hk).1)⟩;obtain⟨g',Ya,GN⟩:=h2.get hr;rw[hk]at Ya;cases Ya;have:=GN.2.2.2.2.2.2.tP;have:=GN.2.2.2.2.1.2.2.2.2.2.2.2.tP;omega
theorem Tc{xL:Nat}{v':Value}(h:gi base w v gs)(h':gi xL w v' gs) :
  aB 75 #[v,v',.func (.func 76) #[] #[]] w fun e w'=>e=.returned (.bool true)/\Fr aS w w':=by
 obtain⟨rs,h1,h2,h3⟩:=h.rows;obtain⟨rs',Ir,h2',_⟩:=h'.rows;exact MB v v' rs rs' gs w h1 Ir h2 h2' h3
