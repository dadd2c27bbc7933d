/- Lemmas for the law's walk. -/
import Derived.Test.YtjndhcngnghpiaaGreatDoorPn11
set_option maxRecDepth 100000
set_option maxHeartbeats 16000000
set_option linter.unusedSimpArgs false
namespace Go.Proofs.YtjndhcngnghpiaaGreatDoor
open Go.Proofs.Tryz
open Go.RowKit
variable {b d n base k c:Nat} {w2 W w w':World} {L:List Item} {gs:List (aP bE)} {r:K_} {v:Value} {ps:List jn} {a:eQ} {p:jn}
theorem BO(v v':Value)(ss:List aj)(w:World)(h:fM w v ss)(h':fM w v' ss)(hl:ss.length<=9223372036854775807) :
  aB 95 #[v,v'] w fun e w'=>e=.returned (.bool true)/\Fr aS w w':=by
 rcases h with ⟨a,c,rfl,rfl,_⟩|⟨bk,o,c,rfl,h1,h2,h3,h4⟩
 ·obtain⟨a',c',rfl⟩:=h'.form;refine(slices_Equal_string_empty a a' c 0 c' w ab).mono ?_;rintro e w'⟨rfl,rfl⟩;exact⟨rfl,ae _ _⟩
 ·rcases h' with ⟨a',c',rfl,rfl,_⟩|⟨Jf,o',c',rfl,Hv,h2',h3',Z4⟩
  ·refine(slices_Equal_string_empty (some ⟨bk,o,none⟩) a' c 0 c' w ab).mono ?_;rintro e w'⟨rfl,rfl⟩;exact⟨rfl,ae _ _⟩
  ·refine(slices_Equal_string bk o ss.length c Jf o' ss.length c' ss ss w (ay _) (ay _) hl hl (fun j hj=>h4 j _ (by simp[List.getD,hj])) (fun j hj=>Z4 j _ (by simp[List.getD,hj]))).mono ?_;rintro e w'⟨rfl,q,rfl⟩;exact⟨aR,dC _ (ae _ _)⟩
theorem Fb(u p:aj)(w:World):(binOp .eql 31 (.agg #[.string u,.string p]) (.agg #[.string u,.string p])).run prog w=.ok (.bool true) w:=by
 go_simp
theorem Af(r r':fI Value)(a:fI bE)(w:World)(h:r.Reads (fM w) a)(h':r'.Reads (fM w) a)(hl:a.dom.length<=9223372036854775807) :
  aB 59 #[.agg r.cells.toArray,.agg r'.cells.toArray] w fun e w'=>e=.returned (.bool true)/\Fr aS w w':=by
 obtain⟨e1,e2,e3,e4,e5,e6,e7,hd⟩:=h;obtain⟨f1,f2,f3,f4,f5,f6,f7,sF⟩:=h';obtain⟨ad,cd,xl⟩:=hd.form;obtain⟨SF,SH,OJ⟩:=sF.form;unfold fI.cells;rw[e1,e2,e3,e4,e5,e6,e7,f1,f2,f3,f4,f5,f6,f7,xl,OJ];rw[xl]at hd;rw[OJ]at sF
 have hf:Fr aS w _:=((ae aS w).alloc (.cells #[.int .i64 a.scheme,.string a.aK,.string a.bq,.string a.cy,.bool a.cA,.string a.eF,.bool a.cN,.slice ad a.dom.length cd] 127)).alloc (.cells #[.int .i64 a.scheme,.string a.aK,.string a.bq,.string a.cy,.bool a.cA,.string a.eF,.bool a.cN,.slice SF a.dom.length SH] 127);have EQ:=O (BO _ _ _ _ (hd.fG hf) (sF.fG hf) hl)
 clear e1 e2 e3 e4 e5 e6 e7 f1 f2 f3 f4 f5 f6 f7 xl OJ hd sF;go_enter func59,ntmps59;go_wp2_with fail
 refine EQ.o.mono ?_;rintro e w1⟨rfl,dn⟩;go_wp2;go_ret;exact⟨rfl,hf.trans dn⟩
theorem Et(r r':aP Value)(g:aP bE)(w:World)(h:r.Reads (fM w) g)(h':r'.Reads (fM w) g)(hl:g.a.dom.length<=9223372036854775807)(yD:g.paths.length<=9223372036854775807) :
  aB 61 #[.agg r.cells.toArray,.agg r'.cells.toArray] w fun e w'=>e=.returned (.bool true)/\Fr aS w w':=by
 obtain⟨e1,e2,e3,e4,e5,e6,hd⟩:=h;obtain⟨f1,f2,f3,f4,f5,f6,sF⟩:=h';obtain⟨ad,cd,xl⟩:=hd.form;obtain⟨SF,SH,OJ⟩:=sF.form;obtain⟨am,cm,hm⟩:=e5.2.2.2.2.2.2.2.form;obtain⟨am',cm',G3⟩:=f5.2.2.2.2.2.2.2.form
 have hr:r.cells=[.bool g.o.aE,.string g.o.host,.int .i64 g.o.port,.bool g.proxy,.string g.user,.string g.pass,.int .i64 g.a.scheme,.string g.a.aK,.string g.a.bq,.string g.a.cy,.bool g.a.cA,.string g.a.eF,.bool g.a.cN,.slice am g.a.dom.length cm,.int .i64 g.count,.slice ad g.paths.length cd]:=by
  unfold aP.cells;rw[e1,e2,e3,e4,e5.1,e5.2.1,e5.2.2.1,e5.2.2.2.1,e5.2.2.2.2.1,e5.2.2.2.2.2.1,e5.2.2.2.2.2.2.1,hm,e6,xl]
 have Wo:r'.cells=[.bool g.o.aE,.string g.o.host,.int .i64 g.o.port,.bool g.proxy,.string g.user,.string g.pass,.int .i64 g.a.scheme,.string g.a.aK,.string g.a.bq,.string g.a.cy,.bool g.a.cA,.string g.a.eF,.bool g.a.cN,.slice am' g.a.dom.length cm',.int .i64 g.count,.slice SF g.paths.length SH]:=by
  unfold aP.cells;rw[f1,f2,f3,f4,f5.1,f5.2.1,f5.2.2.1,f5.2.2.2.1,f5.2.2.2.2.1,f5.2.2.2.2.2.1,f5.2.2.2.2.2.2.1,G3,f6,OJ]
 have hra:r.a.cells=[.int .i64 g.a.scheme,.string g.a.aK,.string g.a.bq,.string g.a.cy,.bool g.a.cA,.string g.a.eF,.bool g.a.cN,.slice am g.a.dom.length cm]:=by
  unfold fI.cells;rw[e5.1,e5.2.1,e5.2.2.1,e5.2.2.2.1,e5.2.2.2.2.1,e5.2.2.2.2.2.1,e5.2.2.2.2.2.2.1,hm]
 have akl:r'.a.cells=[.int .i64 g.a.scheme,.string g.a.aK,.string g.a.bq,.string g.a.cy,.bool g.a.cA,.string g.a.eF,.bool g.a.cN,.slice am' g.a.dom.length cm']:=by
  unfold fI.cells;rw[f5.1,f5.2.1,f5.2.2.1,f5.2.2.2.1,f5.2.2.2.2.1,f5.2.2.2.2.2.1,f5.2.2.2.2.2.2.1,G3]
 rw[hr,Wo];rw[xl]at hd;rw[OJ]at sF
 have hf:Fr aS w _:=((ae aS w).alloc (.cells #[.bool g.o.aE,.string g.o.host,.int .i64 g.o.port,.bool g.proxy,.string g.user,.string g.pass,.int .i64 g.a.scheme,.string g.a.aK,.string g.a.bq,.string g.a.cy,.bool g.a.cA,.string g.a.eF,.bool g.a.cN,.slice am g.a.dom.length cm,.int .i64 g.count,.slice ad g.paths.length cd] 133)).alloc (.cells #[.bool g.o.aE,.string g.o.host,.int .i64 g.o.port,.bool g.proxy,.string g.user,.string g.pass,.int .i64 g.a.scheme,.string g.a.aK,.string g.a.bq,.string g.a.cy,.bool g.a.cA,.string g.a.eF,.bool g.a.cN,.slice am' g.a.dom.length cm',.int .i64 g.count,.slice SF g.paths.length SH] 133)
 have SA:=O (Af r.a r'.a g.a _ (e5.mono (fun _ _ h=>h.fG hf)) (f5.mono (fun _ _ h=>h.fG hf)) hl);rw[hra,akl]at SA;have hpa:=O (hd.fG hf);have afl:=O (sF.fG hf);have Mp:gq.kV g.o g.o=true:=(gq.wC _ _).2 rfl;have hne:=jo g.o g.o;rw[Mp]at hne;have hce:=Fb g.user g.pass;clear e1 e2 e3 e4 e5 e6 f1 f2 f3 f4 f5 f6 xl OJ hd sF hm G3 hr Wo hra akl Mp
 obtain⟨x,hx⟩:∃x:bS,x= #[.bool g.o.aE,.string g.o.host,.int .i64 g.o.port,.bool g.proxy,.string g.user,.string g.pass,.int .i64 g.a.scheme,.string g.a.aK,.string g.a.bq,.string g.a.cy,.bool g.a.cA,.string g.a.eF,.bool g.a.cN,.slice am g.a.dom.length cm,.int .i64 g.count,.slice ad g.paths.length cd]:=⟨_,rfl⟩
 obtain⟨y,hy⟩:∃y:bS,y= #[.bool g.o.aE,.string g.o.host,.int .i64 g.o.port,.bool g.proxy,.string g.user,.string g.pass,.int .i64 g.a.scheme,.string g.a.aK,.string g.a.bq,.string g.a.cy,.bool g.a.cA,.string g.a.eF,.bool g.a.cN,.slice am' g.a.dom.length cm',.int .i64 g.count,.slice SF g.paths.length SH]:=⟨_,rfl⟩
 have Jd:((w.alloc (.cells x 133)).alloc (.cells y 133)).heap[w.heap.size]?=some (.cells x 133 (0,0)):=by
  rw[Below.heap_alloc _ _ _ aR];exact aC w _
 have pW:((w.alloc (.cells x 133)).alloc (.cells y 133)).heap[w.heap.size+1]?=some (.cells y 133 (0,0)):=by
  have:=aC (w.alloc (.cells x 133)) (.cells y 133);simpa using this
 have x14:x[14]?=some (.int .i64 g.count):=by rw[hx];rfl
 have x15:x[15]?=some (.slice ad g.paths.length cd):=by rw[hx];rfl
 have y14:y[14]?=some (.int .i64 g.count):=by rw[hy];rfl
 have y15:y[15]?=some (.slice SF g.paths.length SH):=by rw[hy];rfl
 have X:=O (And.intro x14 x15);have Y:=O (And.intro y14 y15);have HB:=O (And.intro Jd pW);have HX:=O hx;have HY:=O hy;clear x14 x15 y14 y15 Jd pW hx hy;go_enter func61,ntmps61;go_wp2_with fail
 refine SA.o.mono ?_;rintro e w1⟨rfl,dn⟩;clear SA;rw[<-HX.o, <-HY.o]at hf dn hpa afl;have Jd:=dn.keep HB.o.1 id;have pW:=dn.keep HB.o.2 id;have c14:w1.cell? ⟨w.heap.size,14,none⟩=some (.int .i64 g.count):=by simp only[World.cell?,Jd];simpa using X.o.1
 have c15:w1.cell? ⟨w.heap.size,15,none⟩=some (.slice ad g.paths.length cd):=by simp only[World.cell?,Jd];simpa using X.o.2
 have d14:w1.cell? ⟨w.heap.size+1,14,none⟩=some (.int .i64 g.count):=by simp only[World.cell?,pW];simpa using Y.o.1
 have d15:w1.cell? ⟨w.heap.size+1,15,none⟩=some (.slice SF g.paths.length SH):=by simp only[World.cell?,pW];simpa using Y.o.2
 have EQ:=O (BO _ _ _ w1 (hpa.o.fG dn) (afl.o.fG dn) yD);have HF:=O (hf.trans dn);clear Jd pW hf dn hpa afl HB X Y HX HY hne hce;go_wp2_with fail
 refine EQ.o.mono ?_;rintro e w2⟨rfl,dz⟩;go_wp2;go_ret;exact⟨rfl,HF.o.trans dz⟩
def akm(w:World)(n:Nat)(i:Value)(wr:World):Prop:=∃k:Nat,k<=n/\i=.int .i64 k/\Fr aS w wr
theorem Mh(v v':Value)(rs rs':List (aP Value))(gs:List (aP bE))(w:World)(hv:dV 16 w v (rs.map aP.cells))(rW:dV 16 w v' (rs'.map aP.cells))(hb:kT (aP.Reads (fM w)) rs gs)(hb':kT (aP.Reads (fM w)) rs' gs)
  (hl:∀g∈gs,g.a.dom.length<=9223372036854775807/\g.paths.length<=9223372036854775807) :
  aB 60 #[v,v',.func (.func 61) #[] #[]] w fun e w'=>e=.returned (.bool true)/\Fr aS w w':=by
 have hn:=hb.len;have Rc:=hb'.len;obtain⟨av,cv,fH⟩:=hv.form;obtain⟨av',XQ,W_⟩:=rW.form;rw[ai,hn]at fH;rw[ai,Rc]at W_;subst fH W_;go_enter func60,ntmps60;go_wp2;go_loopw[17] (akm w gs.length) (fun i _=>gs.length-(intOf i).toNat)
 case atStart=>exact⟨0,aQ _,rfl,ae _ _⟩
 case round =>
  obtain⟨k,hk,rfl,cL⟩:=hrel;by_cases fk:k<gs.length
  ·obtain⟨r,yC⟩:∃r,rs[k]?=some r:=⟨_,List.getElem?_eq_getElem ab⟩;obtain⟨r',aaF⟩:∃r,rs'[k]?=some r:=⟨_,List.getElem?_eq_getElem ab⟩;obtain⟨g,hg,hr⟩:=hb.get yC;obtain⟨g',XF,Wo⟩:=hb'.get aaF;rw[hg]at XF;cases XF;obtain⟨hl1,yD⟩:=hl g (cj hg);have dX:=(hv.1 _ (bZ.2 ⟨r,cj yC,rfl⟩)).2;have ack:=(rW.1 _ (bZ.2 ⟨r',cj aaF,rfl⟩)).2;rcases(hv.fG cL).2 with ⟨_,_,_,e,_⟩|⟨bk,o,c,e1,q1,q2,q3,q4⟩
   ·simp at e;rw[e]at hn;simp at hn;omega
   rcases(rW.fG cL).2 with ⟨_,_,_,e,_⟩|⟨Jf,o',c',e1',q1',q2',q3',q4'⟩
   ·simp at e;rw[e]at Rc;simp at Rc;omega
   rw[ai,hn]at e1 q1;rw[ai,Rc]at e1' q1';cases e1;cases e1';unfold maxLen at q2 q2';have hcell:=q4 k r.cells (by rw[List.getElem?_map,yC];rfl);have IZ:=q4' k r'.cells (by rw[List.getElem?_map,aaF];rfl);obtain⟨x,hx⟩:∃x,x=r.cells:=⟨_,rfl⟩;obtain⟨y,hy⟩:∃y,y=r'.cells:=⟨_,rfl⟩;have lp:x.length=16:=by rw[hx];rfl
   have CP:y.length=16:=by rw[hy];rfl
   have jq:=fun W=>run_storeCells_new (P:=prog) W 133 eS x (by rw[lp];rfl) (by rw[hx];exact dX);have ako:=run_storeCells_new (P:=prog) (wr.alloc (.cells x.toArray 133)) 133 eS y (by rw[CP];rfl) (by rw[hy];exact ack);rw[show(wr.alloc (.cells x.toArray 133)).heap.size=wr.heap.size+1 from aR]at ako;rw[<-hx]at hcell;rw[<-hy]at IZ
   have afm:∀(i:Nat) u,y[i]?=some u->(wr.alloc (.cells x.toArray 133)).cell? ⟨Jf,o'+k*16+i,none⟩=some u:=fun i u hu=>by
    have:=IZ i u hu;rw[<-this];exact((ae aS wr).alloc _).cell (p:=⟨Jf,o'+k*16+i,none⟩) q3' id
   have dz:Fr aS wr ((wr.alloc (.cells x.toArray 133)).alloc (.cells y.toArray 133)):=((ae aS wr).alloc _).alloc _;have Jd:((wr.alloc (.cells x.toArray 133)).alloc (.cells y.toArray 133)).heap[wr.heap.size]?=some (.cells x.toArray 133 (0,0)):=by
    rw[Below.heap_alloc _ _ _ aR];exact aC wr _
   have pW:((wr.alloc (.cells x.toArray 133)).alloc (.cells y.toArray 133)).heap[wr.heap.size+1]?=some (.cells y.toArray 133 (0,0)):=by
    have:=aC (wr.alloc (.cells x.toArray 133)) (.cells y.toArray 133);simpa using this
   have SG:=O (Et r r' g _ (hr.mono (fun _ _ h=>(h.fG cL).fG dz)) (Wo.mono (fun _ _ h=>(h.fG cL).fG dz)) hl1 yD);rw[<-hx, <-hy]at SG;have HB:=O (And.intro Jd pW);have HF:=O (cL.trans dz);have Dx:(prog.info? 133).map (·.size)=some x.length:=by rw[lp];kernel_rfl
   have hyi:(prog.info? 133).map (·.size)=some y.length:=by rw[CP];kernel_rfl
   have Hu:=O Dx;have HYI:=O hyi;clear hx hy Jd pW dX ack hr Wo hg yC aaF q4 q4' IZ Dx hyi hl1 yD dz
   go_wp2_with (first|((with_reducible refine dk 21 ?_);refine a_ rfl 133 (.tmp 20) rfl bk (o+k*16) rfl x _ hcell underlying133 rfl Hu.o ?_)|((with_reducible refine dk 25 ?_);refine a_ rfl 133 (.tmp 24) rfl Jf (o'+k*16) rfl y _ afm underlying133 rfl HYI.o ?_)|((with_reducible refine dk 27 ?_);refine aI rfl 133 (.tmp 8) rfl wr.heap.size rfl _ x.toArray (0,0) _ HB.o.1 underlying133 rfl (by rw[aZ];exact Hu.o) ?_)|((with_reducible refine dk 28 ?_);refine aI rfl 133 (.tmp 9) rfl (wr.heap.size+1) rfl _ y.toArray (0,0) _ HB.o.2 underlying133 rfl (by rw[aZ];exact HYI.o) ?_)|fail)
   clear jq ako;refine SG.o.mono ?_;rintro e w3⟨rfl,il⟩;have iq:=O (HF.o.trans il);go_wp2;go_roundw
   case rel=>exact⟨k+1,ab,bg,iq.o⟩
   case measure=>simp[intOf];omega
  ·go_wp2;go_ret;exact⟨rfl,cL⟩
theorem Mi(p:ef)(w:World):(binOp .neq 137 (.agg p.cells.toArray) (.agg p.cells.toArray)).run prog w=.ok (.bool false) w:=by
 unfold ef.cells;go_simp
def afn(w:World)(n:Nat)(i:Value)(wr:World):Prop:=∃k:Nat,k<=n/\i=.int .i64 k/\Fr aS w wr
theorem I2(v v':Value)(ps:List ef)(w:World)(h:qF w v ps)(h':qF w v' ps) :
  aB 62 #[v,v'] w fun e w'=>e=.returned (.bool true)/\Fr aS w w':=by
 obtain⟨av,cv,hv⟩:=dI h;obtain⟨av',XQ,rW⟩:=dI h';subst hv rW;rw[ai]at h h' ⊢;have HL:=O (fun U (hU:Fr aS w U)=>bh h hU);have HL':=O (fun U (hU:Fr aS w U)=>bh h' hU);have HQ:=O (Mi);clear h h';go_enter func62,ntmps62;go_wp2;go_loopw[13] (afn w ps.length) (fun i _=>ps.length-(intOf i).toNat)
 case atStart=>exact⟨0,aQ _,rfl,ae _ _⟩
 case round =>
  obtain⟨k,hk,rfl,cL⟩:=hrel;by_cases fk:k<ps.length
  ·have o_:(k:Int)<(ps.length:Int):=ab;have NP:(0:Int)<=(k:Int):=ab;have hne:ps≠ []:=by intro e;rw[e]at fk;cases fk
   obtain⟨bk,of,rfl,g1,g2,g3,g4,g5⟩:=qF.lie (HL.o wr cL) hne;obtain⟨Jf,of',rfl,g1',g2',g3',g4',g5'⟩:=qF.lie (HL'.o wr cL) hne;unfold maxLen at g3 g3';have dP:=O (List.getElem?_eq_getElem fk);generalize ps[k]=q at dP;obtain⟨c0,c1,c2,c3,c4,c5,c6,c7,c8,c9,Gd,Tg⟩:=g5 k q dP.o;obtain⟨d0,d1,d2,d3,d4,d5,d6,d7,d8,d9,d10,d11⟩:=g5' k q dP.o;have heq:=HQ.o q;unfold ef.cells at heq;clear g1 g5 g1' g5';go_wp2
   go_quiet (fail);go_wp2;go_roundw
   case rel=>exact⟨k+1,ab,bg,cL.drewN _⟩
   case measure=>simp[intOf];omega
  ·have o_:¬(k:Int)<(ps.length:Int):=ab;go_wp2;go_ret;exact⟨rfl,cL⟩
def zk(fO:Int)(cy:aj)(x:nL):iP:=⟨fO,x.aK.data.toList,x.bq.data.toList,cy.data.toList,x.cA,x.eF.data.toList,x.user.data.toList,x.target.data.toList,(nZ x).data.toList,x.bK.data.toList,jt x.n⟩
theorem Dk(x:nL):(nZ x).size<=64:=by unfold nZ;split<;>exact lD _ _
def Hp(fO:Int)(cy:aj)(x:nL)(n:Int)(w:World)(e:Ending)(w':World):Prop :=
 Fr aS w w'/\(((zk fO cy x).fair=false/\∃t v,e=.returned (.tuple #[.string ⟨#[]⟩,.iface t v]))\/((fO=2\/fO=3)/\n=(x.n:Int)/\1<=x.n/\x.n<=4294967295/\(zk fO cy x).fair=true/\e=.returned (.tuple #[.string (bA (zk fO cy x).text),.nilIface])))
structure St (b d n:Nat) (w2:World) (L:List Item) (W:World):Prop where
 hb:vA b b (vH L) W
 hd:zd W d (xT L)
 rA:Below w2.heap.size w2 W
 sz:b<=W.heap.size
 cnt:L.length<=n
 len:(vH L).length<=7+10100*n
theorem QS(l:List Item)(nm v:Bs)(q:Bool){M:Nat}(h:(vH l).length<=M)(hn:nm.length<=20)(hv:v.length<=5000):(vH (l++[(nm,v,q)])).length<=M+10100:=by
 rw[<-Kf];have h1:=Uf (vH l) nm (AA q v);have h2:=Ue q v;omega
theorem St.Kr{W':World}(h:St b d n w2 L W)(hf:Fr aS W W')(hB:b=w2.heap.size):St b d n w2 L W' :=
 ⟨h.hb.fG hf,hf.keep h.hd id,h.rA.trans ((ow hf).mono (hB▸h.sz)),aF h.sz hf.size,h.cnt,h.len⟩
theorem St.named(h:St b d n w2 L W):∃M,M=L/\St b d n w2 M W:=⟨L,rfl,h⟩
theorem lF(b d n:Nat)(w2:World)(L:List Item)(W:World)(nm:Bs)(nb:aj)(v:aj)(q:Bool)(Ai:nb=bA nm)(hB:b=w2.heap.size)(M8:b<d)(hn:n<=20)(Xw:nm.length<=20)(hv:v.size<=5000)(h:St b d n w2 L W) :
  aB 106 #[.string nb,.string v,.bool q,.pointer (some ⟨d,0,none⟩),.pointer (some ⟨b,0,none⟩)] W (fun e w'=>e=.returned (.tuple #[])/\St b d (n+1) w2 (L++[(nm,v.data.toList,q)]) w'):=by
 subst Ai;have hl:=h.len;have rW:v.data.toList.length<=5000:=by simpa using hv
 have:=YF b b d (vH L) nm v.data.toList (xT L) q W h.hb h.hd ab ab ab ab ab h.sz;rw[TK]at this;refine this.mono ?_;rintro e w'⟨rfl,h1,h2,h3⟩;rw[Kf]at h1;rw[QM]at h2;refine⟨rfl,h1,h2,h.rA.trans (hB▸h3),aF h.sz h3.size,by simp;exact h.cnt,?_⟩;exact aF (QS L nm v.data.toList q hl Xw rW) (by rw[Nat.mul_add];omega)
theorem pG{x:Bool}(h:zd w d x):w.cell? ⟨d,0,none⟩=some (.bool x):=by simp[World.cell?,show w.heap[d]?=_ from h]
def AL(o:gq)(proxy:Bool)(g:bI bE):Bool:=g.o.kV o&&g.proxy==proxy
def ma(o:gq)(proxy:Bool):List (bI bE)->List (bI bE)×Option (bI bE)
 |[]=>([],none)
 |g :: l=>if AL o proxy g then(l,some g)else(g :: (ma o proxy l).1,(ma o proxy l).2)
theorem DL{o:gq}{proxy:Bool}:∀ {l:List (bI bE)},l.any (AL o proxy)=false->ma o proxy l=(l,none)
 |[],_=>rfl
 |g :: l,h=>by
  rw[List.any_cons,eK]at h;rw[ma,h.1,DL h.2];rfl
theorem F_{o:gq}{proxy:Bool}:∀ {l:List (bI bE)} {k:Nat} {g:bI bE},(l.take k).any (AL o proxy)=false->l[k]?=some g->AL o proxy g=true->ma o proxy l=(l.take k++l.drop (k+1),some g)
 |[],k,g,_,h,_=>by simp at h
 |a :: l,0,g,_,h,hg=>by
  simp at h;subst h;rw[ma,hg];rfl
 |a :: l,k+1,g,ha,h,hg=>by
  rw[List.take_succ_cons,List.any_cons,eK]at ha;rw[ma,ha.1,F_ ha.2 (by simpa using h) hg];rfl
theorem F'(o:gq)(proxy:Bool):∀(l:List (bI bE)),(ma o proxy l).1.length<=l.length
 |[]=>ay _
 |g :: l=>by
  rw[ma];split
  ·simp
  ·have:=F' o proxy l;simp;omega
def nv(base:Nat)(w:World)(b:Nat)(gv wv:Value)(gs:List (aP bE))(u:List (bI bE)×Option (bI bE))(e:Ending)(w':World):Prop :=
 kr base w b gv wv gs u.1 w'/\match u.2 with
 |none=>e=.returned (.tuple #[.agg vR,.bool false])
 |some g=>∃r:bI Value,e=.returned (.tuple #[.agg r.cells.toArray,.bool true])/\r.Reads (du base w') g/\∀u∈r.cells,u.oneCell'=true
theorem PQ:(vR:bS).all (·.oneCell')=true:=bW H'
theorem Ga{base:Nat}{w5 w6:World}{b gg cap i n:Nat}{gv:Value}{gs:List (aP bE)}{ls:List (bI bE)}{rs:List (bI Value)}(h5:dD base w5 b gv (.slice (some ⟨gg,0,none⟩) ls.length cap) gs ls)
  (hb:kT (bI.Reads (du base w5)) rs ls)(zc:OwnRows base 129 13 w6 (.slice (some ⟨gg,0,none⟩) (i+(ls.length-n)) cap) ((rs.map bI.cells).take i++(rs.map bI.cells).drop n))(nz:Fr (one gg) w5 w6) :
  dD base (w6.setCell ⟨b,1,none⟩ (.slice (some ⟨gg,0,none⟩) (i+(ls.length-n)) cap)) b gv (.slice (some ⟨gg,0,none⟩) (i+(ls.length-n)) cap) gs (ls.take i++ls.drop n) /\
  Fr (dv b gv (.slice (some ⟨gg,0,none⟩) ls.length cap)) w5 (w6.setCell ⟨b,1,none⟩ (.slice (some ⟨gg,0,none⟩) (i+(ls.length-n)) cap))/\w6.cell? ⟨b,1,none⟩=some (.slice (some ⟨gg,0,none⟩) ls.length cap)/\w6.frozen? ⟨b,1,none⟩=false:=by
 have k_:=h5.low;have dX:∀k,one gg k->own (.slice (some ⟨gg,0,none⟩) ls.length cap) k:=fun k hk=>by have e:k=gg:=hk;rw[e];rfl
 have mO:rR base w5 (one gg):=fun k hk hl=>h5.off k (Or.inr (Or.inr (dX k hk))) hl;have sO:=nz.keep h5.eJ (fun h=>h5.wb (dX _ h));have zx:fZ base w6 gv gs:=h5.bU.fr nz mO (fun k hk hg=>h5.gw hk (dX _ hg));have hm:=hb.mono (fun _ _ h=>h.mono (fun _ _ h=>h.fr nz mO));have hg6:jY base w6 (.slice (some ⟨gg,0,none⟩) (i+(ls.length-n)) cap) (ls.take i++ls.drop n):=by
  refine⟨rs.take i++rs.drop n,?_,(hm.take i).app (hm.drop n)⟩;rw[bG,List.map_take,List.map_drop];exact zc
 have T':Fr (dv b gv (.slice (some ⟨gg,0,none⟩) ls.length cap)) w5 w6:=nz.mono (fun k _ hk=>Or.inr (Or.inr (dX k hk)));exact⟨dD.adq k_ sO zx hg6,T'.setCell (p:=⟨b,1,none⟩) (fun _=>Or.inl rfl) _,by simp[World.cell?,sO],by simp[World.frozen?,sO]⟩
theorem kr.ahT{gv wv:Value}{ws:List (bI bE)}(h:dD base w b gv wv gs ws)(hf:Fr aS w w'):kr base w b gv wv gs ws w' :=
 ⟨gv,wv,h.di hf,hf.mono (fun _ _ h=>absurd h id),fun _ hk=>Or.inl hk⟩
def ahU(w:World)(ws:List (bI bE))(o:gq)(proxy:Bool)(i:Value)(wr:World):Prop :=
 ∃k:Nat,k<=ws.length/\i=.int .i64 k/\(ws.take k).any (AL o proxy)=false/\Fr aS w wr
theorem KL(base:Nat)(w:World)(b:Nat)(gv wv:Value)(gs:List (aP bE))(ws:List (bI bE))(o:gq)(proxy:Bool)(h:dD base w b gv wv gs ws)(Ew:ws.length<34359738368) :
  aB 81 #[.pointer (some ⟨b,0,none⟩),.agg o.cells.toArray,.bool proxy] w (nv base w b gv wv gs (ma o proxy ws)):=by
 unfold gq.cells;have tV:=h.lt;have k_:=h.low;obtain⟨aw,cw,EL⟩:=h.waits.form;subst EL;have oW:Fr aS w _:=((ae aS w).alloc (.cells #[.bool o.aE,.string o.host,.int .i64 o.port] 24)).alloc (.cells vR 129);have b1:=aC (w.alloc (.cells #[.bool o.aE,.string o.host,.int .i64 o.port] 24)) (.cells vR 129)
 rw[show(w.alloc (.cells #[.bool o.aE,.string o.host,.int .i64 o.port] 24)).heap.size=w.heap.size+1 from aR]at b1;have b0:=Below.heap_alloc (w.alloc (.cells #[.bool o.aE,.string o.host,.int .i64 o.port] 24)) (.cells vR 129) w.heap.size aR;rw[aC]at b0;have h1:=h.di oW;have c1:=h1.c1;have YV:=O b0;have PN:=O b1;clear b0 b1;go_enter func81,ntmps81;go_wp2_with fail
 clear c1;generalize (w.alloc (.cells _ 24)).alloc _=W at *
 go_loopw[15] (ahU W ws o proxy) (fun i _=>ws.length-(intOf i).toNat)
 case atStart=>exact⟨0,aQ _,rfl,rfl,ae _ _⟩
 case round =>
  obtain⟨k,hk,rfl,ja,cL⟩:=hrel;have Za:=O ja;clear ja;by_cases fk:k<ws.length
  ·obtain⟨bk,c,dn,sG,r,dX,hr,hcell⟩:=(h1.di cL).waits.at fk;cases dn;unfold maxLen at sG;have dP:=O (List.getElem?_eq_getElem fk);obtain⟨x,hx⟩:∃x,x=r.cells:=⟨_,rfl⟩;have lp:x.length=13:=by rw[hx];rfl
   have jq:=fun W=>run_storeCells_new (P:=prog) W 129 vR x (by rw[lp];rfl) (by rw[hx];exact dX);rw[<-hx]at hcell;have Hu:=O (AK lp);have gO:Fr aS wr (wr.alloc (.cells x.toArray 129)):=(ae aS wr).alloc _;have p_:(wr.alloc (.cells x.toArray 129)).heap[wr.heap.size]?=some (.cells x.toArray 129 (0,0)):=aC _ _
   have mZ:∀i u,r.cells[i]?=some u->(wr.alloc (.cells x.toArray 129)).cell? ⟨wr.heap.size,i,none⟩=some u:=fun i u hu=>by
    rw[<-hx]at hu;simp only[World.cell?,p_];simpa using hu
   have c0:=mZ 0 _ rfl;have c1:=mZ 1 _ rfl;have c2:=mZ 2 _ rfl;have c3:=mZ 3 _ rfl;have heq:=jo r.o o;have hO3:=O (gO.keep (cL.keep YV.o id) id);have rT:=cL.trans gO;have h3:=h1.di rT;have rq:=O (hr.mono (fun _ _ h=>h.di gO));have hq:=O (show AL o proxy ws[k]=(r.o.kV o&&r.proxy==proxy)by unfold AL;rw[hr.1,hr.2.1]);have HX:=O hx;have tG:=O p_;have wU:=O dX
   have hlw:wr.heap.size<(wr.alloc (.cells x.toArray 129)).heap.size:=aR;clear hx hr gO p_ mZ dX;cases e1:r.o.kV o
   ·have KM:=O (any_take_succ dP.o Za.o (by rw[hq.o,e1];rfl));go_wp2_with (first|((with_reducible refine dk 19 ?_);refine a_ rfl 129 (.tmp 18) rfl bk (k*13) rfl x _ hcell underlying129 rfl Hu.o ?_)|((with_reducible refine dk 22 ?_);refine aI rfl 24 (.tmp 4) rfl w.heap.size rfl _ _ (0,0) _ hO3.o underlying24 rfl af ?_)|fail)
    go_roundw
    case rel=>exact⟨k+1,ab,bg,KM.o,rT⟩
    case measure=>simp[intOf];omega
   ·cases e2:r.proxy==proxy
    ·have KM:=O (any_take_succ dP.o Za.o (by rw[hq.o,e1,e2];rfl));go_wp2_with (first|((with_reducible refine dk 19 ?_);refine a_ rfl 129 (.tmp 18) rfl bk (k*13) rfl x _ hcell underlying129 rfl Hu.o ?_)|((with_reducible refine dk 22 ?_);refine aI rfl 24 (.tmp 4) rfl w.heap.size rfl _ _ (0,0) _ hO3.o underlying24 rfl af ?_)|fail)
     go_roundw
     case rel=>exact⟨k+1,ab,bg,KM.o,rT⟩
     case measure=>simp[intOf];omega
    ·have htk:=O (F_ Za.o dP.o (by rw[hq.o,e1,e2];rfl));obtain⟨rs,ho,hb⟩:=h3.waits;have uT:=O (show(rs.map bI.cells).length=ws.length by rw[ai,hb.len]);have qz:=O (F0 base bk cw k (k+1) (rs.map bI.cells) _ (by rw[uT.o];exact ho) ab (by rw[uT.o];omega));rw[uT.o,show((k+1:Nat):Int)=(k:Int)+1 from ab]at qz;have anA:bk<w.heap.size:=by obtain⟨cc,e⟩:=h.vP (k:=bk) rfl;exact bj e
     have d1:=h3.c1;have Re:=oW.trans rT;have b1v:=O (rT.keep PN.o id);have auv:w.heap.size+1<W.heap.size:=bj PN.o;have wT:W.heap.size<=wr.heap.size:=cL.size;have hne:∀j,dv b gv (.slice (some ⟨bk,0,none⟩) ws.length cw) j->j<w.heap.size:=fun j hj=>by
      rcases hj with hj|hj|hj
      ·omega
      ·obtain⟨cc,e⟩:=h.tN hj;exact bj e
      ·obtain⟨cc,e⟩:=h.vP hj;exact bj e
     have hxz:=O (show(vR:bS).size=x.toArray.size from U1.trans (by simp[lp]));have mI:=O (show x.toArray.all (·.oneCell')=true from bW (by rw[HX.o];exact wU.o));have hxa:=O (show(prog.info? 129).map (·.size)=some x.toArray.size by rw[aZ];exact Hu.o);clear rT
     go_wp2_with (first|((with_reducible refine dk 19 ?_);refine a_ rfl 129 (.tmp 18) rfl bk (k*13) rfl x _ hcell underlying129 rfl Hu.o ?_)|((with_reducible refine dk 22 ?_);refine aI rfl 24 (.tmp 4) rfl w.heap.size rfl _ _ (0,0) _ hO3.o underlying24 rfl af ?_)|fail)
     clear jq hcell c0 c1 c2 c3 d1 hO3 heq;generalize wr.alloc (.cells x.toArray 129)=V at *
     refine qz.o.mono ?_;rintro e w2⟨rfl,qN,dz⟩;obtain⟨h4,Td,d2,e2'⟩:=Ga h3 hb (by exact qN) dz;obtain⟨l,hl⟩:∃l,l=ws.take k++ws.drop (k+1):=⟨_,rfl⟩;have hm:k+(ws.length-(k+1))=l.length:=by rw[hl,aN,aM,bJ];omega
     rw[<-hl]at h4;rw[<-hl]at htk;rw[hm]at h4 Td ⊢;clear hl hm;have KH:rR base V (own (.slice (some ⟨bk,0,none⟩) ws.length cw)):=ho.off (ay _) ag;have KI:rR base V (one bk):=fun j hj hl=>KH j (by have e:j=bk:=hj;rw[e];rfl) hl;have zy:=dz.keep tG.o (fun h=>by have e:wr.heap.size=bk:=h;omega);have UW:=dz.keep b1v.o (fun hh=>by have e:w.heap.size+1=bk:=hh;omega);have vn:=rq.o.mono (fun _ _ h=>h.fr dz KI)
     have UX:w2.heap[b]?=some (.cells #[gv,.slice (some ⟨bk,0,none⟩) ws.length cw] 118 (0,0)):=dz.keep h3.eJ (fun h=>h3.wb (by have e:b=bk:=h;rw[e];rfl));have kf:Fr (one b) w2 (w2.setCell ⟨b,1,none⟩ (.slice (some ⟨bk,0,none⟩) l.length cw)):=(ae (one b) w2).setCell (p:=⟨b,1,none⟩) (fun _=>rfl) _;have UY:rR base w2 (one b):=by
      rintro j rfl _;exact⟨k_,fun cc f e=>by rw[UX]at e;cases e⟩
     have DH:=O (kf.keep zy (fun h=>by have e:wr.heap.size=b:=h;omega));have Rf:=O (kf.keep UW (fun h=>by have e:w.heap.size+1=b:=h;omega));have Bu:=O (vn.mono (fun _ _ h=>h.fr kf UY));have hFw:=O (show Fr (dv b gv (.slice (some ⟨bk,0,none⟩) ws.length cw)) w (w2.setCell ⟨b,1,none⟩ (.slice (some ⟨bk,0,none⟩) l.length cw))from fU (Re.mono (fun _ _ h=>absurd h id)) Td (fun _ _ h=>h))
     have kX:∀j,dv b gv (.slice (some ⟨bk,0,none⟩) l.length cw) j->dv b gv (.slice (some ⟨bk,0,none⟩) ws.length cw) j:=fun j hj=>by
      rcases hj with h|h|h
      ·exact Or.inl h
      ·exact Or.inr (Or.inl h)
      ·exact Or.inr (Or.inr h)
     have H4:=O h4;clear qz qN ho hb UX kf UY zy UW vn Td KI KH h3 Re tG rq b1v h4;go_wp2_with (first|((with_reducible refine dk 41 ?_);refine aI rfl 129 (.tmp 9) rfl wr.heap.size rfl _ x.toArray (0,0) _ DH.o underlying129 rfl hxa.o ?_)|((with_reducible refine cV 129 ?_);refine aG rfl 129 (.tmp 6) (.tmp 41) rfl (w.heap.size+1) x.toArray rfl rfl _ vR Rf.o hxa.o hxz.o mI.o ?_)|fail)
     refine aU (results_cell_tmp bC _ _ (w.heap.size+1) 129 x.toArray (0,0) _ rfl (aY _ (w.heap.size+1) _ _ _ _ Rf.o) underlying129 rfl hxa.o) rfl ?_;unfold nv;rw[htk.o]
     have hFr:Fr (one (w.heap.size+1)) (w2.setCell ⟨b,1,none⟩ (.slice (some ⟨bk,0,none⟩) l.length cw)) ((w2.setCell ⟨b,1,none⟩ (.slice (some ⟨bk,0,none⟩) l.length cw)).setRow (w.heap.size+1) x.toArray):=(ae (one (w.heap.size+1)) _).setRow (fun _=>rfl) _;have rG:rR base (w2.setCell ⟨b,1,none⟩ (.slice (some ⟨bk,0,none⟩) l.length cw)) (one (w.heap.size+1)):=by
      rintro j rfl _;exact⟨ab,fun cc f e=>by rw[Rf.o]at e;cases e⟩
     refine⟨⟨_,_,H4.o.fr hFr rG ?_ ?_ ?_,hFw.o.step hFr ?_,fun j hj=>Or.inl (kX j hj)⟩,r,by rw[HX.o];rfl,Bu.o.mono (fun _ _ h=>h.fr hFr rG),wU.o⟩
     ·intro hh;have e:b=w.heap.size+1:=hh;omega
     ·intro j hj hh;have e:j=w.heap.size+1:=hh;have:=hne j (kX j (Or.inr (Or.inl hj)));omega
     ·intro j hj hh;have e:j=w.heap.size+1:=hh;have:=hne j (kX j (Or.inr (Or.inr hj)));omega
     ·intro j hj hh;have e:j=w.heap.size+1:=hh;omega
  ·have hs:=O (DL (o:=o) (proxy:=proxy) (l:=ws) (by have h:=Za.o;rw[aD ab]at h;exact h));have pW:=O (cL.keep PN.o id);have HF:=oW.trans cL;have hp:=kr.ahT h (HF.setRow (g:=w.heap.size+1) (fun h=>absurd h ab) vR);go_wp2_with (first|((with_reducible refine cV 129 ?_);refine aG rfl 129 (.tmp 6) (.tmp 43) rfl (w.heap.size+1) vR rfl rfl _ vR pW.o af rfl PQ ?_)|fail)
   refine aU (results_cell_tmp bC _ _ (w.heap.size+1) 129 vR (0,0) _ rfl (aY wr (w.heap.size+1) _ _ _ _ pW.o) underlying129 rfl af) rfl ?_;unfold nv;rw[hs.o];exact⟨hp,rfl⟩
def Zc(p:aj):aj:=p.extract 0 (Lib.lastIndexByte p 47+1).toNat
theorem lastIndexByte_bounds(s:aj)(c:Int): -1<=Lib.lastIndexByte s c/\Lib.lastIndexByte s c+1<=s.size:=by
 rcases Lib.lastIndexByte_spec s c with ⟨e,_⟩|⟨i,hi,e,_⟩
 ·rw[e];omega
 ·rw[e];omega
theorem Zd(p:aj)(w:World)(hs:p.size<4611686018427387904):aB 123 #[.string p] w fun e w'=>e=.returned (.string (Zc p))/\w=w':=by
 have hbd:=lastIndexByte_bounds p 47;have hd:=O (show Zc p=p.extract 0 (Lib.lastIndexByte p 47+1).toNat from rfl);go_enter func123,ntmps123;go_wp2_with fail
 refine(strings_LastIndexByte p 47 hs w).mono ?_;rintro e w1⟨rfl,rfl⟩;generalize Lib.lastIndexByte p 47=k at *
 have h1:(0:Int)<=k+1:=ab;have h2:k+1<=(p.size:Int):=ab;go_wp2;go_ret;exact⟨by rw[hd.o];rfl,rfl⟩
theorem du.lit(base:Nat)(w:World)(x:aj)(hk:k=w.heap.size):du base (w.alloc (.cells #[.string x] 9)) (.slice (some ⟨k,0,none⟩) 1 1) [x]:=by
 subst hk;exact du.anL base w x
def nO(a:fI bE)(proxy:Bool)(path:aj):bE :=
 if proxy then [⟨#[47]⟩]else if a.scheme≠1/\a.dom.length=0 then [⟨#[47]⟩]else if a.scheme=1 then [Zc path]else a.dom
def ra(base:Nat)(w:World)(l:bE)(e:Ending)(w':World):Prop:=∃v,e=.returned v/\du base w' v l/\Fr aS w w'
theorem Ri(base:Nat)(r:fI Value)(a:fI bE)(proxy:Bool)(path:aj)(w:World)(hr:r.Reads (du base w) a)(hs:path.size<4611686018427387904) :
  aB 82 #[.agg r.cells.toArray,.bool proxy,.string path] w (ra base w (nO a proxy path)):=by
 obtain⟨e1,e2,e3,e4,e5,e6,e7,AM⟩:=hr;obtain⟨ad,cd,xl⟩:=AM.rd.form;have hAC:r.cells=[.int .i64 a.scheme,.string r.aK,.string r.bq,.string r.cy,.bool r.cA,.string r.eF,.bool r.cN,.slice ad a.dom.length cd]:=by unfold fI.cells;rw[e1,xl]
 rw[xl]at AM;have gO:Fr aS w (w.alloc (.cells #[.int .i64 a.scheme,.string r.aK,.string r.bq,.string r.cy,.bool r.cA,.string r.eF,.bool r.cN,.slice ad a.dom.length cd] 127)):=(ae aS w).alloc _;have su:=AM.di gO;rw[hAC];clear hAC e1 e2 e3 e4 e5 e6 e7 AM xl;cases proxy with
 |true =>
  have ql:=O (show nO a true path=[⟨#[47]⟩]from rfl);go_enter func82,ntmps82;go_wp2;go_ret;unfold ra;rw[ql.o];exact⟨_,rfl,du.lit base _ _ aR,((ae aS w).alloc _).alloc _⟩
 |false =>
  by_cases h1:a.scheme=1
  ·have ql:=O (show nO a false path=[Zc path]by unfold nO;simp[h1]);go_enter func82,ntmps82;go_wp2_with fail
   refine(Zd path _ hs).mono ?_;rintro e w1⟨rfl,rfl⟩;go_wp2;go_ret;unfold ra;rw[ql.o];exact⟨_,rfl,du.lit base _ _ aR,((ae aS w).alloc _).alloc _⟩
  ·by_cases h2:a.dom.length=0
   ·have ql:=O (show nO a false path=[⟨#[47]⟩]by unfold nO;rw[ar ag,aA ⟨h1,h2⟩]);have h2':((a.dom.length:Nat):Int)=0:=ab;go_enter func82,ntmps82;go_wp2;go_ret;unfold ra;rw[ql.o];exact⟨_,rfl,du.lit base _ _ aR,((ae aS w).alloc _).alloc _⟩
   ·have ql:=O (show nO a false path=a.dom by unfold nO;rw[ar ag,ar (fun h=>h2 h.2),ar h1]);have pW:(a.scheme !=1)=true:=by simp[h1]
    have ko:(((a.dom.length:Nat):Int)==0)=false:=by simp;intro h;exact h2 (by rw[h];rfl)
    have CL:=O (rF base _ _ _ su);go_enter func82,ntmps82;go_wp2_with fail
    refine CL.o.mono ?_;rintro e w1⟨a',c',rfl,Xm,hf⟩;go_wp2;go_ret;unfold ra;rw[ql.o];exact⟨_,rfl,Xm,gO.trans hf⟩
theorem AP:(prog.info? 137).map (fun i=>(i.zero,i.size,i.bytes))=some (some (.agg EX),12,144):=af
theorem Rl{base:Nat}{w2 w4:World}{b:Nat}{v0 v:Value}{fs:List ef}{p:ef}{gg cap:Nat}(hl:base<=b)(hb:w2.heap[b]?=some (.cells #[v0] 121 (0,0)))(Uu:¬own v b)(kD:Fr (own v) w2 w4)
  (eZ:w4.ownsRow base 137 12 (.slice (some ⟨gg,0,none⟩) (fs.length+1) cap) (fs.length+1) ((fs.map ef.cells).flatten++p.cells)) :
  eN base (w4.setCell ⟨b,0,none⟩ (.slice (some ⟨gg,0,none⟩) (fs.length+1) cap)) b (.slice (some ⟨gg,0,none⟩) (fs.length+1) cap) (fs++[p]):=by
 refine oM hl (kD.keep hb Uu) ⟨?_,?_⟩
 ·intro x hx;obtain⟨q,_,rfl⟩:=bZ.1 hx;exact⟨rfl,q.tO⟩
 ·rw[bG,ed,aN,ai];simpa using eZ
def ahY(base:Nat)(w1:World)(b:Nat)(v:Value)(ps ls:List ef)(t:Value)(wr:World):Prop :=
 ∃k vk,k<=ls.length/\t=.int .i64 k/\eN base wr b vk ((ls.take k).foldl EJ ps)/\Fr (iu b v) w1 wr/\∀j,iu b vk j->iu b v j\/w1.heap.size<=j
theorem Rm{ps ls:List ef}{p:ef}(h:ls[k]?=some p):(ls.take (k+1)).foldl EJ ps=((ls.take k).foldl EJ ps).filter (fun q=>!p.like q)++[p]:=by
 rw[dW h,List.foldl_append];rfl
theorem qV(ps:List ef)(f:ef->Bool):(ps.map ef.cells).filter (fun x=>!f (Ia x))=(ps.filter (fun q=>!f q)).map ef.cells:=by
 rw[List.filter_map];rfl
theorem Rn{S:dB}{U w3:World}{x:aX}{t:TypeId}(hU:U.heap[n]?=some (.cells x.toArray t (0,0)))(hf:Fr S U w3)(hn:¬S n):∀j u,x[j]?=some u->w3.cell? ((⟨n,0,none⟩:Addr).add j)=some u:=by
 intro j u hj;have h:=hf.keep hU hn;have e:(Addr.add ⟨n,0,none⟩ j)=⟨n,j,none⟩:=by unfold Addr.add;split<;>simp_all
 rw[e];simp only[World.cell?,h];simpa using hj
theorem KS(base:Nat)(w:World)(b:Nat)(v:Value)(ps:List ef)(lv:Value)(ls:List ef)(now:Int)(h:eN base w b v ps)(hl:qF w lv ls)(rJ:ls≠ []->∀k,lv.ownBlock=some k->¬iu b v k)(hlen:ps.length+ls.length<1000000) :
  aB 89 #[.pointer (some ⟨b,0,none⟩),lv,.int .i64 now] w fun e w'=>e=.returned (.tuple #[])/\DP base w b v (uf ps ls now) w':=by
 obtain⟨al,cl,hlf⟩:=dI hl;rw[ai]at hlf;subst hlf;obtain⟨w1,oq⟩:∃w1,w1=w.alloc (.cells #[.int .i64 now] 3):=⟨_,rfl⟩;have dn:Fr aS w w1:=by rw[oq];exact(ae _ _).alloc _
 have Ai:w1.heap[w.heap.size]?=some (.cells #[.int .i64 now] 3 (0,0)):=by rw[oq];exact aC _ _
 have BQ:w.heap.size<w1.heap.size:=bj Ai;have h1:=h.di dn;have hl1:qF w1 (.slice al ls.length cl) ls:=bh hl dn;have HLT:=O (show∀k,iu b v k->k<w.heap.size from fun k hk=>h.jf hk);have Ho:=O oq;have lq:=O dn;have Ji:=O Ai;clear hl oq dn Ai h;go_enter func89,ntmps89;go_wp2_with fail
 rw[<-Ho.o];go_loopw[11] (ahY base w1 b v ps ls) (fun t _=>ls.length-(intOf t).toNat)
 case atStart=>exact⟨0,v,aQ _,rfl,h1,ae _ _,fun _ h=>Or.inl h⟩
 case round =>
  obtain⟨k,vk,hk,rfl,hb,cL,Ez⟩:=hrel;have k_:=hb.low;have Ev:=J4 (ls.take k) ps;rw[aM]at Ev;by_cases fk:k<ls.length
  ·have o_:(k:Int)<(ls.length:Int):=ab;have dP:=O (List.getElem?_eq_getElem fk);generalize ls[k]=p at dP;have l_:=O (Rm (ps:=ps) dP.o);generalize (ls.take k).foldl EJ ps=fs at hb Ev l_;have lT:dV 12 wr (.slice al ls.length cl) (ls.map ef.cells):=dV.fr hl1 cL (rJ (fun e=>by rw[e]at dP;have:=dP.o;simp at this));rcases lT.2 with ⟨_,_,_,e,_⟩|⟨bk,of,c,hf,g1,g2,g3,g4⟩
   ·have:ls.length=0:=by have:=aq List.length e;simpa using this
    omega
   rw[ai]at hf g1;cases hf;unfold maxLen at g2;obtain⟨x,hx⟩:∃x,x=p.cells:=⟨_,rfl⟩;have lp:x.length=12:=by rw[hx];rfl
   have dX:∀u∈x,u.oneCell'=true:=by rw[hx];exact p.tO
   have hcell:=g4 k x (by rw[List.getElem?_map,dP.o,hx];rfl);have jq:=fun W=>run_storeCells_new (P:=prog) W 137 EX x (by rw[lp];rfl) dX;have Dx:(prog.info? 137).map (·.size)=some x.length:=AO lp;clear g4 lT;have HX:=O hx;have Hu:=O Dx;clear hx Dx;go_wp2_with (first|((with_reducible refine dk 14 ?_);refine a_ rfl 137 (.tmp 13) rfl bk (of+k*12) rfl x _ hcell underlying137 rfl Hu.o ?_)|fail)
   have dz:Fr aS wr (wr.alloc (.cells x.toArray 137)):=(ae _ _).alloc _;have CS:(wr.alloc (.cells x.toArray 137)).heap[wr.heap.size]?=some (.cells x.toArray 137 (0,0)):=aC _ _;have je:=cL.alloc (.cells x.toArray 137);have ko:=hb.di dz;have XC:¬own vk wr.heap.size:=fun hk=>by have:=hb.DQ hk;omega
   have jQ:b<wr.heap.size:=hb.lt;have SL:=O (show wr.heap.size<(wr.alloc (.cells x.toArray 137)).heap.size from bj CS);clear jq hcell dz;generalize wr.alloc (.cells x.toArray 137)=W2 at *
   obtain⟨ak,ck,Th⟩:=ko.form;subst Th;obtain⟨KT,Zf⟩:∃KT,KT=fs.filter (fun q=>!p.like q):=⟨_,rfl⟩;have zt:KT.length<=fs.length:=by rw[Zf];exact bT _ _
   rw[<-Zf]at l_
   have HK:=O (show∀U,Fr (iu b (.slice ak fs.length ck)) W2 U->(U.cell? ⟨wr.heap.size,0,none⟩=some (.bool p.cW.aE)/\U.cell? ⟨wr.heap.size,1,none⟩=some (.string p.cW.host)/\U.cell? ⟨wr.heap.size,2,none⟩=some (.int .i64 p.cW.port)/\U.cell? ⟨wr.heap.size,3,none⟩=some (.bool p.o.aE)/\U.cell? ⟨wr.heap.size,4,none⟩=some (.string p.o.host)/\U.cell? ⟨wr.heap.size,5,none⟩=some (.int .i64 p.o.port)/\U.cell? ⟨wr.heap.size,6,none⟩=some (.string p.path)/\U.cell? ⟨wr.heap.size,7,none⟩=some (.string p.query)/\U.cell? ⟨wr.heap.size,8,none⟩=some (.bool p.fN)/\U.cell? ⟨wr.heap.size,9,none⟩=some (.string p.method)/\U.cell? ⟨wr.heap.size,10,none⟩=some (.string p.head)/\U.cell? ⟨wr.heap.size,11,none⟩=some (.int .i64 p.pL))from fun U hU=>by
    have j2:=hU.keep CS (fun h=>by
     rcases h with h|h
     ·omega
     ·exact XC h)
    rw[HX.o]at j2;have hc:∀i u,p.cells[i]?=some u->U.cell? ⟨wr.heap.size,i,none⟩=some u:=fun i u hu=>by simp only[World.cell?,j2];simpa using hu
    exact⟨hc 0 _ rfl,hc 1 _ rfl,hc 2 _ rfl,hc 3 _ rfl,hc 4 _ rfl,hc 5 _ rfl,hc 6 _ rfl,hc 7 _ rfl,hc 8 _ rfl,hc 9 _ rfl,hc 10 _ rfl,hc 11 _ rfl⟩)
   have HBC:=O (show∀U,Fr (own (.slice ak fs.length ck)) W2 U->U.cell? ⟨b,0,none⟩=some (.slice ak fs.length ck)from fun U hU=>by
    have j1:=hU.keep ko.eJ ko.nb;simp[World.cell?,j1])
   have Jd:(⟨b,0,none⟩:Addr).block<W2.heap.size->iu b (.slice ak fs.length ck) (⟨b,0,none⟩:Addr).block:=fun _=>Or.inl rfl;have d0:=HBC.o W2 (ae _ _);have dA:∀o:Obj,(W2.alloc o).cell? ⟨b,0,none⟩=some (.slice ak fs.length ck):=fun o=>HBC.o _ ((ae _ _).alloc o);have ah0:=O (show∀U,Fr (own (.slice ak fs.length ck)) W2 U->U.frozen? ⟨b,0,none⟩=false from fun U hU=>by
    have j1:=hU.keep ko.eJ ko.nb;simp[World.frozen?,j1])
   have fB:=O (show∀U,Fr aS W2 U->aB 141 #[.slice ak fs.length ck,.func (.func 143) #[] #[.pointer (some ⟨wr.heap.size,0,none⟩)]] U fun e w'=>∃a c,e=.returned (.slice a KT.length c)/\OwnRows base 137 12 w' (.slice a KT.length c) (KT.map ef.cells)/\Fr (own (.slice ak fs.length ck)) U w'/\own (.slice a KT.length c)=own (.slice ak fs.length ck)from fun U hU=>by
    have hd:=pO base 143 #[.pointer (some ⟨wr.heap.size,0,none⟩)] (fun y=>p.like (Ia y)) (.slice ak fs.length ck) (fs.map ef.cells) U call143 (fun y hy u hu=>by
     obtain⟨q,_,rfl⟩:=bZ.1 hy;have hpu:=hu.keep (hU.keep CS id) XC;rw[HX.o]at hpu;exact Va p q wr.heap.size u hpu) (ko.rows.fr hU (fun _ _ h=>h))
    rw[qV,ai, <-Zf]at hd;exact hd)
   clear Zf;obtain⟨i0,qp,o9,kQ,ld⟩:=info_parts AP;have hnW:¬own (.slice ak fs.length ck) W2.heap.size:=fun hk=>by have:=ko.DQ hk;omega
   have anP:base<=W2.heap.size:=by have:=SL.o;omega
   have P0:=HK.o W2 (ae _ _);obtain⟨x0,x1,x2,x3,x4,x5,x6,x7,x8,x9,Y7,Y8⟩:=P0;go_region_law (first
     |((with_reducible refine mL ⟨some 21,_,_,_,_,_⟩ ?_)
       refine Ay rfl 141 _ (by go_simp) (fB.o _ (by repeat(first|exact ae _ _|apply az|apply bz))) ?_
       intro e w3 qz
       obtain⟨a3,c3,rfl,fq,il,Jj⟩:=qz
       refine⟨_,rfl,?_⟩
       have iq:Fr (own (.slice ak fs.length ck)) W2 w3:=fU (S:=own (.slice ak fs.length ck)) (by repeat(first|exact ae _ _|apply az|apply bz)) il (fun _ _ h=>h)
       have ah1:Fr (iu b (.slice ak fs.length ck)) W2 w3:=iq.mono (fun _ _ h=>Or.inr h)
       have Vc:w3.ownsRow base 137 12 (.slice a3 KT.length c3) KT.length (KT.map ef.cells).flatten:=by
         have h:=fq.2
         rw[ai]at h
         exact h
       have Hj:=HK.o w3 ah1
       have sV:base<=w3.heap.size:=by have:=iq.size;omega)
     |((with_reducible refine mL ⟨some 24,_,_,_,_,_⟩ ?_)
       (first
         |refine step_append_lies _ bC _ _ _ bC base 137 i0 _ 12 144 underlying119 qp o9 kQ ld rfl ab (.slice a3 KT.length c3) KT.length _ bC (by repeat(first|exact Vc|apply World.ownsRow.alloc|apply World.ownsRow.drew)) ⟨w3.heap.size,0,none⟩ 1 1 p.cells bC bC (kF w3 p.cells _) p.tO ab ft ab bH (w3.heap.size+1) aR ?_
         |refine step_append_lies _ bC _ _ _ bC base 137 i0 _ 12 144 underlying119 qp o9 kQ ld rfl ab (.slice a3 KT.length c3) KT.length _ bC (by repeat(first|exact Vc|apply World.ownsRow.alloc|apply World.ownsRow.drew)) ⟨W2.heap.size,0,none⟩ 1 1 p.cells bC bC (Rn (by exact aC _ _) il hnW) p.tO ab ft ab ab (w3.heap.size) aR ?_)
       intro gg cap w4 eZ js dP KG
       have jO:Fr (own (.slice ak fs.length ck)) W2 w4:=fl (by repeat(first|exact iq|apply az|apply bz)) js (fun k hk _=>by rw[<-Jj];exact hk)
       have ah2:Fr (iu b (.slice ak fs.length ck)) W2 w4:=jO.mono (fun _ _ h=>Or.inr h)
       have k4:=HBC.o w4 jO
       have e4:=ah0.o w4 jO))
   all_goals
    have h5:=Rl (v:=.slice ak fs.length ck) k_ ko.eJ ko.nb jO eZ;rw[<-l_.o]at h5;have hF5:Fr (iu b v) w1 (w4.setCell ⟨b,0,none⟩ (.slice (some ⟨gg,0,none⟩) (KT.length+1) cap)):=je.step (ah2.setCell (p:=⟨b,0,none⟩) Jd _) (fun j hj hb=>by
     rcases Ez j hb with h|h
     ·exact h
     ·omega)
    have TF:w1.heap.size<=w3.heap.size:=by have h1:=je.size;have h2:=iq.size;omega
    have Rb:∀j,iu b (.slice (some ⟨gg,0,none⟩) (KT.length+1) cap) j->iu b v j\/w1.heap.size<=j:=by
     rintro j(hj|hj)
     ·exact Or.inl (Or.inl hj)
     ·have e:gg=j:=by simpa[own,Value.ownBlock]using hj
      subst e;rcases dP with dP|dP
      ·exact Ez gg (Or.inr (by rw[<-Jj];exact dP))
      ·exact Or.inr ab
    have H5:=O (And.intro h5 (And.intro hF5 Rb));clear fB HK HBC ah0 eZ js jO ah2 iq ah1 Vc k4 e4 Hj x0 x1 x2 x3 x4 x5 x6 x7 x8 x9 Y7 Y8 d0 dA Jd h5 hF5 Rb dP Jj fq il;generalize w4.setCell ⟨b,0,none⟩ (.slice (some ⟨gg,0,none⟩) (KT.length+1) cap)=w5 at *
    go_wp2;go_roundw
    case rel=>exact⟨k+1,_,ab,bg,H5.o.1,H5.o.2.1,H5.o.2.2⟩
    case measure=>simp[intOf];omega
  ·have o_:¬(k:Int)<(ls.length:Int):=ab;have Qv:ls.take k=ls:=aD ab;rw[Qv]at hb Ev;obtain⟨fs,kx⟩:∃fs,fs=ls.foldl EJ ps:=⟨_,rfl⟩;rw[<-kx]at hb Ev;have Ra:¬own vk w.heap.size:=fun hk=>by
    rcases Ez _ (Or.inr hk)with h|h
    ·have:=HLT.o _ h;omega
    ·omega
   have anQ:=cL.keep Ji.o (fun hk=>by have:=HLT.o _ hk;omega);have hd:=pO base 145 #[.pointer (some ⟨w.heap.size,0,none⟩)] (fun y=>!(Ia y).alive now) vk (fs.map ef.cells) wr call145 (fun y hy u hu=>by
    obtain⟨q,_,rfl⟩:=bZ.1 hy;exact Vb q now w.heap.size u (hu.keep anQ Ra)) hb.rows
   rw[qV fs (fun q=>!q.alive now),ai]at hd;obtain⟨ys,J_⟩:∃ys,ys=fs.filter (fun q=>!!q.alive now):=⟨_,rfl⟩;rw[<-J_]at hd;have hyl:ys.length<=fs.length:=by rw[J_];exact bT _ _
   have gG:=O (show uf ps ls now=ys.drop (ys.length-32)by
    rw[J_,kx];unfold uf;simp only[Bool.not_not])
   obtain⟨ak,ck,Th⟩:=hb.form;have hb':=hb;subst Th;have sF:=O hd;have c0:=hb.c0;have e0:=hb.free 0;have HB:=O hb;have sX:=O cL;have Ti:=O Ez;have auC:b<w1.heap.size:=Nat.lt_trans (HLT.o b (Or.inl rfl)) BQ;clear hd J_ kx hb hb' cL Ez;go_wp2_with fail
   refine sF.o.mono ?_;rintro e w2⟨a2,c2,rfl,qN,dz,Jj⟩;have KU:=dz.keep HB.o.eJ HB.o.nb;have d0:w2.cell? ⟨b,0,none⟩=some (.slice ak fs.length ck):=by simp[World.cell?,KU]
   have e2:w2.frozen? ⟨b,0,none⟩=false:=by simp[World.frozen?,KU]
   have h3:=oM HB.o.low KU qN;have EA:Fr (iu b v) w1 (w2.setCell ⟨b,0,none⟩ (.slice a2 ys.length c2)):=(sX.o.step dz (fun j hj ho=>by
    rcases Ti.o j (Or.inr ho)with h|h
    ·exact h
    ·omega)).setCell (p:=⟨b,0,none⟩) (fun _=>Or.inl rfl) _
   have ah3:∀j,iu b (.slice a2 ys.length c2) j->iu b v j\/w1.heap.size<=j:=by
    rintro j(hj|hj)
    ·exact Or.inl (Or.inl hj)
    ·exact Ti.o j (Or.inr (by rw[<-Jj];exact hj))
   have H3:=O (And.intro h3 (And.intro EA ah3));have d3:=h3.c0;have e3:=h3.free 0;clear h3 EA ah3 sF qN KU c0 e0 dz HB sX Ti Jj;by_cases h32:32<ys.length
   ·have anR:(32:Int)<(ys.length:Int):=ab;have pU:(0:Int)<(ys.length:Int)-32:=ab;obtain⟨n,hn⟩:∃n:Nat,ys.length=n+32:=⟨ys.length-32,ab⟩;obtain⟨gg,rfl⟩:∃gg,a2=some ⟨gg,0,none⟩:=by
     rcases H3.o.1.rows.2.2 with ⟨hv,hq⟩|⟨g,cap,cur,hv,_⟩
     ·rw[ai]at hq;omega
     ·injection hv with h1;exact⟨g,h1⟩
    have lT:=H3.o.1.rows;have sG:(ys.map ef.cells).length=ys.length:=ai _;have qz:=Rk base gg c2 0 n (ys.map ef.cells) (w2.setCell ⟨b,0,none⟩ (.slice (some ⟨gg,0,none⟩) ys.length c2)) (by rw[sG];exact lT) ab ab;rw[sG]at qz;have Vd:=O qz;have HN:=O hn;clear qz hn lT sG;go_wp2_with fail
    rw[show((ys.length:Int)-32)=(n:Int)from by have:=HN.o;omega];clear d0 e2;generalize w2.setCell ⟨b,0,none⟩ (.slice (some ⟨gg,0,none⟩) ys.length c2)=w3 at *
    refine Vd.o.mono ?_;rintro e w6⟨rfl,zc,nz⟩;have dX:∀j,one gg j->own (.slice (some ⟨gg,0,none⟩) ys.length c2) j:=fun j hj=>by have e:j=gg:=hj;rw[e];rfl
    have Zg:=nz.keep H3.o.1.eJ (fun h=>H3.o.1.nb (dX _ h));have d6:w6.cell? ⟨b,0,none⟩=some (.slice (some ⟨gg,0,none⟩) ys.length c2):=by simp[World.cell?,Zg]
    have e6:w6.frozen? ⟨b,0,none⟩=false:=by simp[World.frozen?,Zg]
    rw[List.take_zero,List.nil_append, <-List.map_drop,bw]at zc;rw[bw];have h7:=oM H3.o.1.low Zg zc;have Tc:Fr (iu b v) w1 (w6.setCell ⟨b,0,none⟩ (.slice (some ⟨gg,0,none⟩) (ys.length-n) c2)):=(H3.o.2.1.step nz (fun j hj ho=>by
     rcases H3.o.2.2 j (Or.inr (dX j ho))with h|h
     ·exact h
     ·omega)).setCell (p:=⟨b,0,none⟩) (fun _=>Or.inl rfl) _
    have Y_:∀j,iu b (.slice (some ⟨gg,0,none⟩) (ys.length-n) c2) j->iu b v j\/w1.heap.size<=j:=by
     rintro j(hj|hj)
     ·exact Or.inl (Or.inl hj)
     ·exact H3.o.2.2 j (Or.inr hj)
    have H7:=O (And.intro h7 (And.intro Tc Y_));clear h7 Tc Y_ zc nz Zg Vd d3 e3;go_wp2;go_end0;refine⟨rfl,_,by rw[gG.o,show ys.length-32=n from by have:=HN.o;omega];exact H7.o.1,fU (lq.o.mono (fun _ _ h=>absurd h id)) H7.o.2.1 (fun _ _ h=>h),fun j hj=>?_⟩;rcases H7.o.2.2 j hj with h|h
    ·exact Or.inl h
    ·exact Or.inr ab
   ·have anR:¬(32:Int)<(ys.length:Int):=ab;have pU:¬(0:Int)<(ys.length:Int)-32:=ab;go_wp2;go_end0;refine⟨rfl,_,by rw[gG.o,show ys.length-32=0 from ab,eE];exact H3.o.1,fU (lq.o.mono (fun _ _ h=>absurd h id)) H3.o.2.1 (fun _ _ h=>h),fun j hj=>?_⟩;rcases H3.o.2.2 j hj with h|h
    ·exact Or.inl h
    ·exact Or.inr ab
structure ni.Fit (x:ni):Prop where
 scheme:x.scheme.length<=100000
 token:x.token.length<=100000
 qZ:x.params.length<=16
 yX:∀p∈x.params,p.1.length<=99999/\p.2.length<=99999
def lH(w:World)(v:Value)(ps:List jn):Prop:=dV 2 w v (ps.map od)
def Lb(w:World)(r:K_)(x:ni):Prop:=r.1=bA x.scheme/\r.2.1=bA x.token/\lH w r.2.2 x.params
def uy(w:World)(v:Value)(xs:List ni):Prop:=∃rs:List K_,dV 3 w v (rs.map AR)/\kT (Lb w) rs xs
theorem Vh.rd{x:ni}(h:Vh base w r x):Lb w r x:=⟨h.1,h.2.1,h.2.2.at⟩
theorem lf.at{xs:List ni}(h:lf base w v xs):uy w v xs:=by
 obtain⟨rs,h1,h2⟩:=h;exact⟨rs,h1.at,h2.mono (fun _ _ h=>h.rd)⟩
theorem Lb.fG{x:ni}(h:Lb w r x)(hf:Fr aS w w'):Lb w' r x:=⟨h.1,h.2.1,bh h.2.2 hf⟩
theorem uy.fG{xs:List ni}(h:uy w v xs)(hf:Fr aS w w'):uy w' v xs:=by
 obtain⟨rs,h1,h2⟩:=h;exact⟨rs,h1.fG hf,h2.mono (fun _ _ h=>h.fG hf)⟩
theorem uy.form{xs:List ni}(h:uy w v xs):∃a c,v=.slice a xs.length c:=by
 obtain⟨rs,h1,h2⟩:=h;obtain⟨a,c,e⟩:=h1.form;exact⟨a,c,by rw[e,ai,h2.len]⟩
theorem lH.form(h:lH w v ps):∃a c,v=.slice a ps.length c:=by
 obtain⟨a,c,e⟩:=dI h;exact⟨a,c,by rw[e,ai]⟩
theorem lH.cells(h:lH w (.slice a n c) ps)(hk:ps[k]?=some p) :
  ∃bk o,a=some ⟨bk,o,none⟩/\n<=c/\c<=maxLen/\w.cell? ⟨bk,o+k*2,none⟩=some (.string (bA p.1))/\w.cell? ⟨bk,o+k*2+1,none⟩=some (.string (bA p.2)):=by
 have hl:=(List.getElem?_eq_some_iff.1 hk).1;rcases h.2 with ⟨_,_,_,e,_⟩|⟨bk,o,c',hf,h1,h2,h3,h4⟩
 ·have:ps.length=0:=by have:=aq List.length e;simpa using this
  omega
 ·cases hf;have hc:=h4 k (od p) (by rw[List.getElem?_map,hk];rfl);exact⟨bk,o,rfl,h1,h2,hc 0 _ rfl,hc 1 _ rfl⟩
def adV(ps:List jn)(name:Bs):Value:=.tuple #[.string (bA ((ke ps name).getD [])),.bool (ke ps name).isSome]
theorem Vn{n:Bs}(h:ps[k]?=some p)(hp:dH p.1 n=true)(hn:(ps.take k).any (fun q=>dH q.1 n)=false):ke ps n=some p.2:=by
 unfold ke;have:ps.find? (fun q=>dH q.1 n)=some p:=by
  induction ps generalizing k with
  |nil=>simp at h
  |cons a l ih =>
   cases k with
   |zero=>simp at h;subst h;simp[hp]
   |succ k =>
    simp only[List.take_succ_cons,List.any_cons,eK]at hn;rw[List.find?_cons,hn.1];exact ih (by simpa using h) hn.2
 rw[this];rfl
theorem Rr{n:Bs}(hn:ps.any (fun q=>dH q.1 n)=false):ke ps n=none:=by
 unfold ke;have:ps.find? (fun q=>dH q.1 n)=none:=by
  rw[List.find?_eq_none];intro q hq;rw[eX]at hn;exact hn q hq
 rw[this];rfl
def aij(ps:List jn)(n:Bs)(w:World)(t:Value)(wr:World):Prop:=∃k:Nat,k<=ps.length/\t=.int .i64 k/\(ps.take k).any (fun q=>dH q.1 n)=false/\Fr aS w wr
def PU(ps:List jn):Prop:=ps.length<=1000000/\∀p∈ps,p.1.length<17592186044416/\p.2.length<17592186044416
theorem Zv(sc tok:aj)(pv:Value)(ps:List jn)(name:aj)(w:World)(h:lH w pv ps)(hz:PU ps)(hn:name.size<17592186044416) :
  aB 173 #[.agg #[.string sc,.string tok,pv],.string name] w fun e w'=>e=.returned (adV ps name.data.toList)/\Fr aS w w':=by
 obtain⟨av,cv,hv⟩:=h.form;subst hv;obtain⟨w1,oq⟩:∃w1,w1=w.alloc (.cells #[.string sc,.string tok,.slice av ps.length cv] 208):=⟨_,rfl⟩;have dn:Fr aS w w1:=by rw[oq];exact(ae _ _).alloc _
 have FU:lH w1 (.slice av ps.length cv) ps:=bh h dn;have Ho:=O oq;have HZ:=O hz;have Ms:=hz.1;clear oq h hz;go_enter func173,ntmps173;go_wp2_with fail
 rw[<-Ho.o];go_loopw[11] (aij ps name.data.toList w1) (fun t _=>ps.length-(intOf t).toNat)
 case atStart=>exact⟨0,aQ _,rfl,rfl,ae _ _⟩
 case round =>
  obtain⟨k,hk,rfl,Jg,cL⟩:=hrel;have HN:=O Jg;clear Jg;by_cases fk:k<ps.length
  ·have o_:(k:Int)<(ps.length:Int):=ab;have dP:=O (List.getElem?_eq_getElem fk);have Xp:=O (HZ.o.2 _ (bM fk));generalize ps[k]=q at dP Xp;obtain⟨nm,vl⟩:=q;obtain⟨bk,of,rfl,h1,h2,c0,c1⟩:=lH.cells (bh FU cL) dP.o;unfold maxLen at h2;simp only at c0 c1;obtain⟨wb,jQ⟩:∃wb,wb=wr.alloc (.cells #[.string (bA nm),.string (bA vl)] 142):=⟨_,rfl⟩;have kf:Fr aS wr wb:=by rw[jQ];exact(ae aS wr).alloc _
   have xm:wb.heap[wr.heap.size]?=some (.cells #[.string (bA nm),.string (bA vl)] 142 (0,0)):=by rw[jQ];exact aC _ _
   have qL:=O jQ;clear jQ;go_wp2_with fail
   rw[<-qL.o];refine(ml (bA nm) name wb (by have h:=Xp.o.1;exact h) hn).mono ?_;rintro e w8⟨rfl,ru⟩;rw[fT];have QI:=O ((cL.trans kf).trans ru);cases oZ:dH nm name.data.toList
   ·have pV:=O (vF dP.o HN.o oZ);go_wp2;go_roundw
    case rel=>exact⟨k+1,ab,bg,pV.o,QI.o⟩
    case measure=>simp[intOf];omega
   ·have HE:=O (Vn dP.o oZ HN.o);have hb8:=ru.keep xm id;have c1:w8.cell? ⟨wr.heap.size,1,none⟩=some (.string (bA vl)):=by simp[World.cell?,hb8]
    go_wp2;go_ret2;refine⟨?_,dn.trans QI.o⟩;unfold adV;rw[HE.o];rfl
  ·have o_:¬(k:Int)<(ps.length:Int):=ab;have HE:=O (show ke ps name.data.toList=none from Rr (by have h:=HN.o;rw[aD ab]at h;exact h));go_wp2;go_ret2;refine⟨?_,dn.trans cL⟩;unfold adV;rw[HE.o];rfl
theorem uy.cells{xs:List ni}{x:ni}(h:uy w (.slice a n c) xs)(hk:xs[k]?=some x) :
  ∃bk o pv,a=some ⟨bk,o,none⟩/\n<=c/\c<=maxLen/\w.cell? ⟨bk,o+k*3,none⟩=some (.string (bA x.scheme))/\w.cell? ⟨bk,o+k*3+1,none⟩=some (.string (bA x.token))/\w.cell? ⟨bk,o+k*3+2,none⟩=some pv/\lH w pv x.params:=by
 obtain⟨rs,hr,hb⟩:=h;have hl:=(List.getElem?_eq_some_iff.1 hk).1;have uT:=hb.len;obtain⟨r,yC⟩:∃r,rs[k]?=some r:=⟨_,List.getElem?_eq_getElem ab⟩;obtain⟨x',TS,e1,e2,e3⟩:=hb.get yC;rw[hk]at TS;cases TS;rcases hr.2 with ⟨_,_,_,e,_⟩|⟨bk,o,c',hf,h1,h2,h3,h4⟩
 ·have:rs.length=0:=by have:=aq List.length e;simpa using this
  omega
 ·cases hf;have hc:=h4 k (AR r) (by rw[List.getElem?_map,yC];rfl);exact⟨bk,o,r.2.2,rfl,h1,h2,by rw[<-e1];exact hc 0 _ rfl,by rw[<-e2];exact hc 1 _ rfl,hc 2 _ rfl,e3⟩
open Go.ChangeShapes Go.WideShapes Go.ChangeAt Go.RowKit Go.Deep
variable {H : Type} {enc : TypeId × Value → H} {W : World}
structure WO (w:World) (r:gl Value) (hs:List gY):Prop where
 en:oD w r.en hs
 qZ:hs.length<=140737488355328
 small:∀p∈hs,p.1.size<=140737488351232/\p.2.size<=140737488351232
 sized:r.LY
 body:r.body.size<=140737488351232
 part:(Lit.int .i64 r.part).wf=true
 Vr:(Lit.int .i64 r.cW.port).wf=true
 ail:(Lit.int .i64 r.o.port).wf=true
theorem WQ{fuel:Nat}{cs:aX}{x:DataW H×List MemPlace}(h:DataW.trod enc prog W 0 (fun _=>true) true fuel 29 cs=some x) :
  ∃b:gl Value×List gY,(cs=b.1.cells/\oD W b.1.en b.2/\(Lit.int .i64 b.1.part).wf=true/\(Lit.int .i64 b.1.cW.port).wf=true/\(Lit.int .i64 b.1.o.port).wf=true)/\cs.length=13/\(∀u∈cs,u.oneCell'=true) /\
   (oV prog 29 x.1->WO W b.1 b.2):=by
 obtain⟨hl,n,hf⟩:=nS underlying29 h;rw[GL]at hl;obtain⟨c0,c1,c2,c3,c4,c5,c6,c7,c8,c9,Gd,Tg,c12,rfl⟩:=aj9 hl;obtain⟨y0,h0,l0⟩:=hf 0 3 0 _ rfl pJ;obtain⟨y1,h1,l1⟩:=hf 1 24 1 _ rfl Bd;obtain⟨y2,h2,l2⟩:=hf 2 26 4 _ rfl GK;obtain⟨y3,h3,l3⟩:=hf 3 9 9 _ rfl iJ;obtain⟨y4,h4,l4⟩:=hf 4 27 10 _ rfl OC;obtain⟨y5,h5,l5⟩:=hf 5 4 11 _ rfl uH;obtain⟨y6,h6,l6⟩:=hf 6 9 12 _ rfl iJ
 simp only[List.drop,List.take]at h0 h1 h2 h3 h4 h5 h6;obtain⟨b0,e0,w0⟩:=ku underlying3 h0;obtain⟨o,e1,w1,s1⟩:=LZ h1;obtain⟨o2,pa,qu,e2,w2,s2⟩:=WN h2;obtain⟨b3,e3,w3⟩:=fo underlying9 h3;obtain⟨v4,ps,e4,hr,hs⟩:=IQ h4;obtain⟨b5,e5⟩:=nG underlying4 h5;obtain⟨b6,e6,w6⟩:=fo underlying9 h6;unfold gq.cells at e1 e2;simp only[List.cons_append,List.nil_append,fD,iE]at e0 e1 e2 e3 e4 e5 e6
 obtain⟨rfl,rfl,rfl⟩:=e1;obtain⟨rfl,rfl,rfl,rfl,rfl⟩:=e2;subst e0 e3 e4 e5 e6;refine⟨(⟨b0,o,o2,pa,qu,b3,Gd,b5,b6⟩,ps),⟨rfl,hr,w0,w1,w2⟩,rfl,?_,fun hL=>?_⟩
 ·intro u hu;obtain⟨a,c,ev⟩:=hr.form;simp only[bB,cz,dU]at hu;rcases hu with rfl|rfl|rfl|rfl|rfl|rfl|rfl|rfl|rfl|rfl|rfl|rfl|rfl<;>first|rfl|(rw[ev];rfl)
 ·have hk:reachBytes=140737488351232:=rfl;obtain⟨g1,g2⟩:=hs (l4 hL);have q2:=s2 (l2 hL);have q1:=s1 (l1 hL);exact⟨hr,by show ps.length<=_;omega,g2,⟨w3 (l3 hL),q2.2.1,q2.2.2,q2.1,q1⟩,w6 (l6 hL),w0,w1,w2⟩
theorem fZ.rows(h:fZ base w v gs):∃rs:List (aP Value),dV 16 w v (rs.map aP.cells)/\kT (aP.Reads (fM w)) rs gs/\∀g∈gs,g.a.dom.length<=9223372036854775807/\g.paths.length<=9223372036854775807:=by
 obtain⟨rs,h1,h2⟩:=h;refine⟨rs,h1.at,h2.mono (fun _ _ h=>h.mono (fun _ _ h=>h.rd)),fun g hg=>?_⟩;obtain⟨k,hk⟩:=List.getElem?_of_mem hg;obtain⟨r,hr⟩:∃r,rs[k]?=some r:=⟨_,List.getElem?_eq_getElem (by rw[h2.len];exact(List.getElem?_eq_some_iff.1 hk).1)⟩;obtain⟨g',XF,Gq⟩:=h2.get hr;rw[hk]at XF;cases XF;have:=Gq.2.2.2.2.2.2.qZ;have:=Gq.2.2.2.2.1.2.2.2.2.2.2.2.qZ;omega
theorem SI{xD:Nat}{v':Value}(h:fZ base w v gs)(h':fZ xD w v' gs) :
  aB 60 #[v,v',.func (.func 61) #[] #[]] w fun e w'=>e=.returned (.bool true)/\Fr aS w w':=by
 obtain⟨rs,h1,h2,h3⟩:=h.rows;obtain⟨rs',Hv,h2',_⟩:=h'.rows;exact Mh v v' rs rs' gs w h1 Hv h2 h2' h3
