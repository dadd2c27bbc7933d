/- Lemmas for the law's walk. -/
import Derived.Test.YtnckmcnffadjoaaGreatDoorPk11
set_option maxRecDepth 100000
set_option maxHeartbeats 16000000
set_option linter.unusedSimpArgs false
namespace Go.Proofs.YtnckmcnffadjoaaGreatDoor
open Go.Proofs.Tryz
open Go.RowKit
variable {s:aj} {w w' w2 W:World} {n fuel b d base k c:Nat} {v:Value} {cs:aZ} {L:List Item} {r:LZ} {ps:List jF} {a:eO} {p:jF}
theorem VS(p q:ez)(w:World) :
  aB 138 #[.agg p.cells.toArray,.agg q.cells.toArray] w fun e w'=>e=.returned (.bool (p.like q))/\Fr aS w w':=by
 have heq:=LQ {p with qh:=q.qh} q;have HR:=O (show p.like q=({p with qh:=q.qh}:ez).lz q from rfl);obtain⟨W0,hW0⟩:∃W0,W0=(w.alloc (.cells p.cells.toArray 155)).alloc (.cells q.cells.toArray 155):=⟨_,rfl⟩;have pq:Fr aS w W0:=by rw[hW0];exact((ae aS w).alloc _).alloc _
 have h0:W0.heap[w.heap.size]?=some (.cells p.cells.toArray 155 (0,0)):=by rw[hW0];exact((ae aS _).alloc _).keep (aC _ _) id
 have h1:W0.heap[w.heap.size+1]?=some (.cells q.cells.toArray 155 (0,0)):=by
  have h:=aC (w.alloc (.cells p.cells.toArray 155)) (.cells q.cells.toArray 155);rw[bP]at h;rw[hW0];exact h
 have T5:W0.cell? ⟨w.heap.size+1,11,none⟩=some (.int .i64 q.qh):=by simp only[World.cell?,h1];rfl
 have d11:W0.cell? ⟨w.heap.size,11,none⟩=some (.int .i64 p.qh):=by simp only[World.cell?,h0];rfl
 have e11:W0.frozen? ⟨w.heap.size,11,none⟩=false:=by simp[World.frozen?,h0]
 clear h0 h1 pq;rw[hW0]at T5 d11 e11;clear hW0;have hF:Fr aS w ((w.alloc (.cells ({p with qh:=q.qh}:ez).cells.toArray 155)).alloc (.cells q.cells.toArray 155)):=((ae aS w).alloc _).alloc _
 have g0:((w.alloc (.cells ({p with qh:=q.qh}:ez).cells.toArray 155)).alloc (.cells q.cells.toArray 155)).heap[w.heap.size]?=some (.cells ({p with qh:=q.qh}:ez).cells.toArray 155 (0,0)):=((ae aS _).alloc _).keep (aC _ _) id;have g1:((w.alloc (.cells ({p with qh:=q.qh}:ez).cells.toArray 155)).alloc (.cells q.cells.toArray 155)).heap[w.heap.size+1]?=some (.cells q.cells.toArray 155 (0,0)):=by
  have h:=aC (w.alloc (.cells ({p with qh:=q.qh}:ez).cells.toArray 155)) (.cells q.cells.toArray 155);rw[bP]at h;exact h
 unfold ez.cells at *
 dsimp only at heq hF g0 g1;have G:=O (And.intro g0 g1);have HF:=O hF;clear g0 g1 hF;go_enter func138,ntmps138;go_wp2_with (first|((with_reducible refine dr 8 ?_);refine aI rfl 155 (.tmp 2) rfl w.heap.size rfl _ _ (0,0) _ G.o.1 underlying155 rfl af ?_)|((with_reducible refine dr 9 ?_);refine aI rfl 155 (.tmp 3) rfl (w.heap.size+1) rfl _ _ (0,0) _ G.o.2 underlying155 rfl af ?_)|fail)
 go_ret;exact⟨by rw[HR.o];rfl,HF.o⟩
theorem Hb(p:ez)(now:Int)(w:World) :
  aB 124 #[.agg p.cells.toArray,.int .i64 now] w fun e w'=>e=.returned (.bool (p.alive now))/\Fr aS w w':=by
 have HR:=O (show p.alive now=decide (now<p.qh)from rfl);have gX:Fr aS w _:=(ae aS w).alloc (.cells p.cells.toArray 155);have h0:(w.alloc (.cells p.cells.toArray 155)).heap[w.heap.size]?=some (.cells p.cells.toArray 155 (0,0)):=aC _ _;have T5:(w.alloc (.cells p.cells.toArray 155)).cell? ⟨w.heap.size,11,none⟩=some (.int .i64 p.qh):=by simp only[World.cell?,h0];rfl
 clear h0;unfold ez.cells at *
 go_enter func124,ntmps124;go_wp2;go_ret;exact⟨by rw[HR.o];rfl,gX⟩
theorem ez.uu(p:ez):∀u∈p.cells,u.oneCell'=true:=by
 unfold ez.cells;simp[Value.oneCell']
theorem VT(p q:ez)(bp:Nat)(w:World)(hp:w.heap[bp]?=some (.cells p.cells.toArray 155 (0,0))) :
  aB 137 #[.agg q.cells.toArray,.pointer (some ⟨bp,0,none⟩)] w fun e w'=>e=.returned (.bool (p.like q))/\Fr aS w w':=by
 have gX:Fr aS w (w.alloc (.cells q.cells.toArray 155)):=(ae aS w).alloc _;have g0:=gX.keep hp id;have g1:(w.alloc (.cells q.cells.toArray 155)).heap[w.heap.size]?=some (.cells q.cells.toArray 155 (0,0)):=aC _ _;have HL:=O (VS p q (w.alloc (.cells q.cells.toArray 155)));have G:=O (And.intro g0 g1);have HF:=O gX;clear hp g0 g1 gX;unfold ez.cells at *
 go_enter func137,ntmps137;go_wp2_with (first|((with_reducible refine dr 4 ?_);refine aI rfl 155 (.tmp 1) rfl bp rfl _ _ (0,0) _ G.o.1 underlying155 rfl af ?_)|((with_reducible refine dr 5 ?_);refine aI rfl 155 (.tmp 2) rfl w.heap.size rfl _ _ (0,0) _ G.o.2 underlying155 rfl af ?_)|fail)
 refine HL.o.mono ?_;rintro e u⟨rfl,hf⟩;go_wp2;go_ret;exact⟨rfl,HF.o.trans hf⟩
theorem VU(q:ez)(now:Int)(bn:Nat)(w:World)(hn:w.heap[bn]?=some (.cells #[.int .i64 now] 3 (0,0))) :
  aB 139 #[.agg q.cells.toArray,.pointer (some ⟨bn,0,none⟩)] w fun e w'=>e=.returned (.bool (!q.alive now))/\Fr aS w w':=by
 have gX:Fr aS w (w.alloc (.cells q.cells.toArray 155)):=(ae aS w).alloc _;have g0:=gX.keep hn id;have g1:(w.alloc (.cells q.cells.toArray 155)).heap[w.heap.size]?=some (.cells q.cells.toArray 155 (0,0)):=aC _ _;have cn:(w.alloc (.cells q.cells.toArray 155)).cell? ⟨bn,0,none⟩=some (.int .i64 now):=by simp only[World.cell?,g0];rfl
 have HL:=O (Hb q now (w.alloc (.cells q.cells.toArray 155)));have G:=O g1;have HF:=O gX;clear hn g0 g1 gX;unfold ez.cells at *
 go_enter func139,ntmps139;go_wp2_with (first|((with_reducible refine dr 4 ?_);refine aI rfl 155 (.tmp 2) rfl w.heap.size rfl _ _ (0,0) _ G.o underlying155 rfl af ?_)|fail)
 refine HL.o.mono ?_;rintro e u⟨rfl,hf⟩;go_wp2;go_ret;exact⟨rfl,HF.o.trans hf⟩
def V5(n:Nat)(er:Value)(w':World):Prop :=
 er=.iface 105 (.int .i64 n)\/∃g p,er=.iface 211 (.pointer (some ⟨g,0,none⟩))/\w'.heap[g]?=some (.cells #[.int .i64 n,.int .i64 p] 213 (0,0))
def oy(s:aj)(w:World)(e:Ending)(w':World):Prop :=
 Fr aS w w'/\match mJ s.data.toList with
  | .error n=>∃er,e=.returned (.tuple #[.slice none 0 0,er])/\V5 n er w'
  | .ok l=>∃v,e=.returned (.tuple #[v,.nilIface])/\lG w.heap.size w' v l
theorem oy.bad{er:Value}(h:mJ s.data.toList=.error n)(hf:Fr aS w w')(he:V5 n er w'):oy s w (.returned (.tuple #[.slice none 0 0,er])) w':=by
 refine⟨hf,?_⟩;rw[h];exact⟨er,rfl,he⟩
theorem oy.ok{l:List nA}(h:mJ s.data.toList=.ok l)(hf:Fr aS w w')(hv:lG w.heap.size w' v l):oy s w (.returned (.tuple #[v,.nilIface])) w':=by
 refine⟨hf,?_⟩;rw[h];exact⟨v,rfl,hv⟩
theorem L0(acc:List nA)(r:Bs):kq (r.length+1) acc r=if(iP r).isEmpty then .ok acc else
  match pA acc.length (iP r)with
  | .error e=>.error e
  | .ok q=>kq (q.2.length+1) (acc++[q.1]) q.2:=by
 rw[kq];split
 ·rfl
 ·cases ho:pA acc.length (iP r)with
  |error e=>rfl
  |ok q =>
   obtain⟨x,r1⟩:=q;have h1:=CW ho;have h2:=oU r;simp only;rw[qy r.length _ _ ab]
def ajk(s:aj)(w:World)(wr:World):Prop :=
 ∃acc v j,j<=s.size/\iR wr (w.heap.size+1) w.heap.size s v/\dz wr w.heap.size s j/\lG w.heap.size wr v acc/\Fr aS w wr/\acc.length<=8/\iP (s.data.toList.drop j)=s.data.toList.drop j /\
  mJ s.data.toList=kq ((s.data.toList.drop j).length+1) acc (s.data.toList.drop j)
theorem Sf(s:aj)(w:World)(hs:s.size<=140737488351232) :
  aB 54 #[.string s] w (oy s w):=by
 by_cases h3:3000<s.size
 ·have h3':(3000:Int)<(s.size:Int):=ab;have HE:=O (show mJ s.data.toList=.error 4 by unfold mJ;rw[az (by simpa using h3)]);go_enter func54,ntmps54;go_wp2;go_ret2;exact oy.bad HE.o (ae _ _) (Or.inl rfl)
 ·have h3':¬(3000:Int)<(s.size:Int):=ab;have hm:s.size<=maxLen:=ft;have HC:=O (show mJ s.data.toList=kq (s.data.toList.length+1) [] s.data.toList by unfold mJ;rw[aq (by simpa using h3)]);go_enter func54,ntmps54;go_wp2_with fail
  refine(Uk s w).mono ?_;rintro e w1⟨rfl,oJ⟩;have pK:dz w1 w.heap.size s 0:=by rw[oJ];exact aC _ _
  have Cy:w1.heap.size=w.heap.size+1:=by rw[oJ];simp
  have dk:Fr aS w w1:=by rw[oJ];exact(ae _ _).alloc _
  clear oJ;obtain⟨w2,eG⟩:∃w2,w2=w1.alloc (.cells #[.pointer (some ⟨w.heap.size,0,none⟩),.string s,.slice none 0 0] 195):=⟨_,rfl⟩;have oF:iR w2 (w.heap.size+1) w.heap.size s (.slice none 0 0):=by rw[eG, <-Cy];exact aC _ _
  have zG:Fr aS w1 w2:=by rw[eG];exact(ae _ _).alloc _
  have sR:=pK.fr zG id;have fU:=O (dk.trans zG);have nP:=O eG;clear eG dk zG pK;go_wp2_with fail
  rw[<-nP.o];refine(DE _ _ 0 s _ w2 oF sR hm (aL _)).mono ?_;rintro e w3⟨rfl,uG,iz⟩;have Oa:cQ oD s.data.toList 0<=s.size:=by simpa using ij (p:=oD) (l:=s.data.toList) (i:=0) (aL _)
  have HGD:=O (show s.data.toList.drop (cQ oD s.data.toList 0)=iP s.data.toList by rw[kp,eI];rfl);generalize cQ oD s.data.toList 0=j0 at *
  have rP:=oF.one sR iz;have il:=O (fU.o.yr iz (ay _));have Yq:=O (show mJ s.data.toList=kq ((s.data.toList.drop j0).length+1) [] (s.data.toList.drop j0)by
   rw[HC.o,B4 _ _ (show iP s.data.toList=iP (s.data.toList.drop j0)by rw[HGD.o,sU])];exact qy _ _ _ (by rw[HGD.o];have:=oU s.data.toList;omega))
  have V6:=O (show iP (s.data.toList.drop j0)=s.data.toList.drop j0 by rw[HGD.o,sU]);clear iz oF sR Cy nP;go_wp2;go_loopw[] (ajk s w) (fun wr=>s.size-pN wr w.heap.size)
  case atStart=>exact⟨[],_,j0,Oa,rP,uG,lG.nil _ _,il.o,aR,V6.o,Yq.o⟩
  case round =>
   obtain⟨acc,v,j,hj,wh,uD,PZ,cP,hl8,hgj,xY⟩:=hrel;have FN:=O xY;have HGJ:=O hgj;clear xY hgj Yq V6 HGD rP uG;have qq:=O uD.pos;have q0:=wh.cell0;have lO:=O (L0 acc (s.data.toList.drop j));rw[HGJ.o]at lO;go_wp2_with fail
   refine(xm _ s j wr uD).mono ?_;rintro e w5⟨rfl,n5,rfl⟩;by_cases Bd:s.size<=j
   ·have hd:decide (s.size<=j)=true:=bJ Bd;have HE:=O (show mJ s.data.toList=.ok acc by
     rw[FN.o,lO.o,cV (by simpa using Bd)];rfl)
    have q2:=wh.mg;rw[hd];go_wp2;go_ret2;exact oy.ok HE.o (cP.drewN _) (PZ.fr ((ae aS wr).drewN n5) (Jf.none _))
   ·have hd:decide (s.size<=j)=false:=bj Bd;rw[hd];have hne:(s.data.toList.drop j).isEmpty=false:=by
     cases e:s.data.toList.drop j with
     |nil =>
      have:=ar List.length e;simp at this;omega
     |cons a l=>rfl
    rw[hne]at lO;have yb:=wh.drewN (n:=n5);have uE:=uD.drewN n5;have hv5:=PZ.fr ((ae aS wr).drewN n5) (Jf.none _);have yR:=cP.drewN n5;have hbw:w.heap.size<=(wr.drewN n5).heap.size:=yR.size;generalize wr.drewN n5=w5 at *
    go_wp2_with fail
    refine(aal w.heap.size _ _ j s acc v w5 yb uE hv5 hbw ab hj hl8).mono ?_;intro e w6 hp;obtain⟨nL,hm6⟩:=hp;have Ve:∀k,v.ownBlock=some k->w.heap.size<=k:=by
     obtain⟨rs,h1,_⟩:=hv5;exact h1.block
    have xo:=O (show Fr aS w w6 from yR.step nL (fun k hk hh=>by
     rcases hh with hh|hh|hh
     ·omega
     ·omega
     ·have:=Ve k hh;omega))
    cases ho:pA acc.length (s.data.toList.drop j)with
    |error n =>
     rw[ho]at hm6;obtain⟨p,g,rfl,hg⟩:=hm6;have HE:=O (show mJ s.data.toList=.error n by rw[FN.o,lO.o,ho];rfl);clear ho;go_wp2;go_ret2;exact oy.bad HE.o xo.o (Or.inr ⟨g,p,rfl,hg⟩)
    |ok q =>
     obtain⟨x,z⟩:=q;rw[ho]at hm6;obtain⟨rfl,j1,v',hj1,Ni,hd6,J1,hv6⟩:=hm6;simp only at hd6 hv6;have hole:=CW ho;have hk8:=(P9 ho).2;have hjj:j<j1:=by
      have e1:z.length=s.size-j1:=by rw[<-hd6];simp
      have e2:(s.data.toList.drop j).length=s.size-j:=aR;omega
     have Zb:=O (show mJ s.data.toList=kq (z.length+1) (acc++[x]) z by rw[FN.o,lO.o,ho];rfl);clear ho hole;go_wp2_with fail
     refine(DE _ _ j1 s v' w6 J1 Ni hm hj1).mono ?_;rintro e w7⟨rfl,Zs,nO⟩;have aoU:cQ oD s.data.toList j1<=s.size:=by simpa using ij (p:=oD) (l:=s.data.toList) (i:=j1) (by simpa using hj1)
     have Yn:j1<=cQ oD s.data.toList j1:=lS;have HG7:=O (show s.data.toList.drop (cQ oD s.data.toList j1)=iP z by rw[kp,hd6];rfl);generalize cQ oD s.data.toList j1=j2 at *
     have TN:=J1.one Ni nO;have hv7:=hv6.fr nO (Jf.cur Ni);have GB:=O (xo.o.yr nO (ay _));have HS7:=O (show mJ s.data.toList=kq ((s.data.toList.drop j2).length+1) (acc++[x]) (s.data.toList.drop j2)by
      rw[Zb.o,B4 _ _ (show iP z=iP (s.data.toList.drop j2)by rw[HG7.o,sU])];exact qy _ _ _ (by rw[HG7.o];have:=oU z;omega))
     have HGG:=O (show iP (s.data.toList.drop j2)=s.data.toList.drop j2 by rw[HG7.o,sU]);go_wp2;go_roundw
     case rel=>exact⟨acc++[x],v',j2,aoU,TN,Zs,hv7,GB.o,bH,HGG.o,HS7.o⟩
     case measure=>rw[qq.o,Zs.pos];omega
open Go.ChangeShapes Go.WideShapes Go.ChangeAt Go.RowKit Go.Deep
variable {H : Type} {enc : TypeId × Value → H} {W : World}
theorem Ic:prog.cellsOf 34=5:=af
theorem Ie:prog.cellsOf 37=13:=af
theorem Pz:prog.cellsOf 35=1:=af
theorem aqR{α:Type}{l:List α}(h:l.length=5):∃a b c d e,l=[a,b,c,d,e]:=by
 match l,h with
 |[a,b,c,d,e],_=>exact⟨a,b,c,d,e,rfl⟩
theorem alb{α:Type}{l:List α}(h:l.length=13):∃a b c d e f g i j k m n o,l=[a,b,c,d,e,f,g,i,j,k,m,n,o]:=by
 match l,h with
 |[a,b,c,d,e,f,g,i,j,k,m,n,o],_=>exact⟨a,b,c,d,e,f,g,i,j,k,m,n,o,rfl⟩
theorem XR{x:DataW H×List MemPlace}(h:DataW.trod enc prog W 0 (fun _=>true) true fuel 34 cs=some x) :
  ∃(o:gG) (pa qu:aj),cs=o.cells++[.string pa,.string qu]/\(Lit.int .i64 o.port).wf=true/\(pI prog 34 x.1->o.MW/\pa.size<=reachBytes/\qu.size<=reachBytes):=by
 obtain⟨hl,n,hf⟩:=om underlying34 h;rw[Ic]at hl;obtain⟨c0,c1,c2,c3,c4,rfl⟩:=aqR hl;obtain⟨y0,h0,l0⟩:=hf 0 32 0 _ rfl BP;obtain⟨y1,h1,l1⟩:=hf 1 9 3 _ rfl jc;obtain⟨y2,h2,l2⟩:=hf 2 9 4 _ rfl jc;simp only[List.drop,List.take]at h0 h1 h2;obtain⟨o,e0,w0,s0⟩:=MX h0;obtain⟨b1,e1,w1⟩:=fA underlying9 h1;obtain⟨b2,e2,w2⟩:=fA underlying9 h2;unfold gG.cells at e0;simp only[fK,iW]at e0 e1 e2
 obtain⟨rfl,rfl,rfl⟩:=e0;subst e1 e2;exact⟨o,b1,b2,rfl,w0,fun hL=>⟨s0 (l0 hL),w1 (l1 hL),w2 (l2 hL)⟩⟩
def aqS:ez:=⟨⟨false,.empty,0⟩,⟨false,.empty,0⟩,.empty,.empty,false,.empty,.empty,0⟩
instance:Inhabited ez:=⟨aqS⟩
def oC(r:gC Value)(hs:List ig):Bool:=M5 hs&&decide ((r.method.size:Int)+(r.path.size:Int)+(r.query.size:Int)+(r.o.host.size:Int)+(r.dt.host.size:Int)<=600)
theorem JR(r:gC Value)(hs:List ig)(w:World)(hr:oX w r.eB hs)(hl:hs.length<=140737488355328)(hzs:∀p∈hs,p.1.size<=140737488351232/\p.2.size<=140737488351232)(hz:r.MW) :
  aB 41 #[.agg r.cells.toArray] w fun e w'=>e=.returned (.bool (oC r hs))/\Fr aS w w':=by
 obtain⟨z1,z2,z3,z4,z5⟩:=hz;obtain⟨wb,kj⟩:∃wb,wb=w.alloc (.cells r.cells.toArray 37):=⟨_,rfl⟩;have kC:Fr aS w wb:=by rw[kj];exact(ae aS w).alloc _
 have lZ:wb.heap[w.heap.size]?=some (.cells r.cells.toArray 37 (0,0)):=by rw[kj];exact aC _ _
 obtain⟨ah,ch,g_⟩:=dU hr;rw[ai]at g_;have uX:r.cells=[.int .i64 r.part,.bool r.dt.aG,.string r.dt.host,.int .i64 r.dt.port,.bool r.o.aG,.string r.o.host,.int .i64 r.o.port,.string r.path,.string r.query,.string r.method,.slice ah hs.length ch,.bool r.f_,.string r.body]:=by unfold gC.cells;rw[g_]
 have HC:=O (show∀U,Fr aS wb U->U.cell? ⟨w.heap.size,2,none⟩=some (.string r.dt.host)/\U.cell? ⟨w.heap.size,5,none⟩=some (.string r.o.host)/\U.cell? ⟨w.heap.size,7,none⟩=some (.string r.path)/\U.cell? ⟨w.heap.size,8,none⟩=some (.string r.query)/\U.cell? ⟨w.heap.size,9,none⟩=some (.string r.method)/\U.cell? ⟨w.heap.size,10,none⟩=some (.slice ah hs.length ch)from fun U hU=>by
  have j:=hU.keep lZ id;rw[uX]at j;simp[World.cell?,j])
 have rU:=O (abB (.slice ah hs.length ch) hs wb (by rw[<-g_];exact bh hr kC) hl hzs);rw[uX]at kj ⊢;have mF:=O kC;have ri:=O kj;obtain⟨k2,k5,k7,k8,k9,k10⟩:=HC.o wb (ae _ _);rw[kj]at k10;clear hr hl hzs kC lZ g_ uX kj k2 k5 k7 k8 k9;cases Nk:M5 hs
 ·have HR:=O (show oC r hs=false by unfold oC;rw[Nk];rfl);rw[Nk]at rU;clear Nk;go_enter func41,ntmps41;go_wp2_with fail
  rw[<-ri.o];refine rU.o.mono ?_;rintro e u⟨rfl,hf⟩;go_wp2;go_ret;exact⟨by rw[HR.o];rfl,mF.o.trans hf⟩
 ·have HR:=O (show oC r hs=decide ((r.method.size:Int)+(r.path.size:Int)+(r.query.size:Int)+(r.o.host.size:Int)+(r.dt.host.size:Int)<=600)by unfold oC;rw[Nk];rfl);rw[Nk]at rU;clear Nk;go_enter func41,ntmps41;go_wp2_with fail
  rw[<-ri.o];refine rU.o.mono ?_;rintro e u⟨rfl,hf⟩;obtain⟨k2,k5,k7,k8,k9,_⟩:=HC.o u hf;go_wp2;go_ret;exact⟨by rw[HR.o];rfl,mF.o.trans hf⟩
def zU(fV:Int)(cz:aj)(x:n9):jg:=⟨fV,x.aM.data.toList,x.bu.data.toList,cz.data.toList,x.cD,x.eJ.data.toList,x.user.data.toList,x.target.data.toList,(ox x).data.toList,x.bS.data.toList,jK x.n⟩
theorem D2(x:n9):(ox x).size<=64:=by unfold ox;split<;>exact lV _ _
def IW(fV:Int)(cz:aj)(x:n9)(n:Int)(w:World)(e:Ending)(w':World):Prop :=
 Fr aS w w'/\(((zU fV cz x).fair=false/\∃t v,e=.returned (.tuple #[.string ⟨#[]⟩,.iface t v]))\/((fV=2\/fV=3)/\n=(x.n:Int)/\1<=x.n/\x.n<=4294967295/\(zU fV cz x).fair=true/\e=.returned (.tuple #[.string (bA (zU fV cz x).text),.nilIface])))
structure St (b d n:Nat) (w2:World) (L:List Item) (W:World):Prop where
 hb:wG b b (wN L) W
 hd:zO W d (yF L)
 ru:Below w2.heap.size w2 W
 sz:b<=W.heap.size
 cnt:L.length<=n
 len:(wN L).length<=7+10100*n
theorem RE(l:List Item)(nm v:Bs)(q:Bool){M:Nat}(h:(wN l).length<=M)(hn:nm.length<=20)(hv:v.length<=5000):(wN (l++[(nm,v,q)])).length<=M+10100:=by
 rw[<-Lg];have h1:=U0 (wN l) nm (Bj q v);have h2:=UZ q v;omega
theorem St.Ls{W':World}(h:St b d n w2 L W)(hf:Fr aS W W')(hB:b=w2.heap.size):St b d n w2 L W' :=
 ⟨h.hb.fN hf,hf.keep h.hd id,h.ru.trans ((oO hf).mono (hB▸h.sz)),aE h.sz hf.size,h.cnt,h.len⟩
theorem St.named(h:St b d n w2 L W):∃M,M=L/\St b d n w2 M W:=⟨L,rfl,h⟩
theorem lW(b d n:Nat)(w2:World)(L:List Item)(W:World)(nm:Bs)(nb:aj)(v:aj)(q:Bool)(AY:nb=bA nm)(hB:b=w2.heap.size)(NX:b<d)(hn:n<=20)(Yr:nm.length<=20)(hv:v.size<=5000)(h:St b d n w2 L W) :
  aB 99 #[.string nb,.string v,.bool q,.pointer (some ⟨d,0,none⟩),.pointer (some ⟨b,0,none⟩)] W (fun e w'=>e=.returned (.tuple #[])/\St b d (n+1) w2 (L++[(nm,v.data.toList,q)]) w'):=by
 subst AY;have hl:=h.len;have sL:v.data.toList.length<=5000:=by simpa using hv
 have:=Zy b b d (wN L) nm v.data.toList (yF L) q W h.hb h.hd ab ab ab ab ab h.sz;rw[Uy]at this;refine this.mono ?_;rintro e w'⟨rfl,h1,h2,h3⟩;rw[Lg]at h1;rw[Rx]at h2;refine⟨rfl,h1,h2,h.ru.trans (hB▸h3),aE h.sz h3.size,by simp;exact h.cnt,?_⟩;exact aE (RE L nm v.data.toList q hl Yr sL) (by rw[Nat.mul_add];omega)
theorem pY{x:Bool}(h:zO w d x):w.cell? ⟨d,0,none⟩=some (.bool x):=by simp[World.cell?,show w.heap[d]?=_ from h]
def Bt(o:gG)(proxy:Bool)(g:bK bE):Bool:=g.o.lz o&&g.proxy==proxy
def mB(o:gG)(proxy:Bool):List (bK bE)->List (bK bE)×Option (bK bE)
 |[]=>([],none)
 |g :: l=>if Bt o proxy g then(l,some g)else(g :: (mB o proxy l).1,(mB o proxy l).2)
theorem Et{o:gG}{proxy:Bool}:∀ {l:List (bK bE)},l.any (Bt o proxy)=false->mB o proxy l=(l,none)
 |[],_=>rfl
 |g :: l,h=>by
  rw[List.any_cons,eP]at h;rw[mB,h.1,Et h.2];rfl
theorem G5{o:gG}{proxy:Bool}:∀ {l:List (bK bE)} {k:Nat} {g:bK bE},(l.take k).any (Bt o proxy)=false->l[k]?=some g->Bt o proxy g=true->mB o proxy l=(l.take k++l.drop (k+1),some g)
 |[],k,g,_,h,_=>by simp at h
 |a :: l,0,g,_,h,hg=>by
  simp at h;subst h;rw[mB,hg];rfl
 |a :: l,k+1,g,ha,h,hg=>by
  rw[List.take_succ_cons,List.any_cons,eP]at ha;rw[mB,ha.1,G5 ha.2 (by simpa using h) hg];rfl
theorem G7(o:gG)(proxy:Bool):∀(l:List (bK bE)),(mB o proxy l).1.length<=l.length
 |[]=>ay _
 |g :: l=>by
  rw[mB];split
  ·simp
  ·have:=G7 o proxy l;simp;omega
def nI(base:Nat)(w:World)(b:Nat)(gv wv:Value)(gs:List (aQ bE))(u:List (bK bE)×Option (bK bE))(e:Ending)(w':World):Prop :=
 kM base w b gv wv gs u.1 w'/\match u.2 with
 |none=>e=.returned (.tuple #[.agg wY,.bool false])
 |some g=>∃r:bK Value,e=.returned (.tuple #[.agg r.cells.toArray,.bool true])/\r.Reads (dx base w') g/\∀u∈r.cells,u.oneCell'=true
theorem QE:(wY:bT).all (·.oneCell')=true:=b_ Jd
theorem G8{base:Nat}{w5 w6:World}{b gg cap i n:Nat}{gv:Value}{gs:List (aQ bE)}{ls:List (bK bE)}{rs:List (bK Value)}(h5:dH base w5 b gv (.slice (some ⟨gg,0,none⟩) ls.length cap) gs ls)
  (hb:lq (bK.Reads (dx base w5)) rs ls)(zN:OwnRows base 133 13 w6 (.slice (some ⟨gg,0,none⟩) (i+(ls.length-n)) cap) ((rs.map bK.cells).take i++(rs.map bK.cells).drop n))(nL:Fr (one gg) w5 w6) :
  dH base (w6.setCell ⟨b,1,none⟩ (.slice (some ⟨gg,0,none⟩) (i+(ls.length-n)) cap)) b gv (.slice (some ⟨gg,0,none⟩) (i+(ls.length-n)) cap) gs (ls.take i++ls.drop n) /\
  Fr (dy b gv (.slice (some ⟨gg,0,none⟩) ls.length cap)) w5 (w6.setCell ⟨b,1,none⟩ (.slice (some ⟨gg,0,none⟩) (i+(ls.length-n)) cap))/\w6.cell? ⟨b,1,none⟩=some (.slice (some ⟨gg,0,none⟩) ls.length cap)/\w6.frozen? ⟨b,1,none⟩=false:=by
 have lD:=h5.low;have ef:∀k,one gg k->own (.slice (some ⟨gg,0,none⟩) ls.length cap) k:=fun k hk=>by have e:k=gg:=hk;rw[e];rfl
 have nd:sG base w5 (one gg):=fun k hk hl=>h5.off k (Or.inr (Or.inr (ef k hk))) hl;have tH:=nL.keep h5.eN (fun h=>h5.wb (ef _ h));have Ae:gy base w6 gv gs:=h5.bG.fr nL nd (fun k hk hg=>h5.gw hk (ef _ hg));have hm:=hb.mono (fun _ _ h=>h.mono (fun _ _ h=>h.fr nL nd));have hg6:ks base w6 (.slice (some ⟨gg,0,none⟩) (i+(ls.length-n)) cap) (ls.take i++ls.drop n):=by
  refine⟨rs.take i++rs.drop n,?_,(hm.take i).app (hm.drop n)⟩;rw[bI,List.map_take,List.map_drop];exact zN
 have UU:Fr (dy b gv (.slice (some ⟨gg,0,none⟩) ls.length cap)) w5 w6:=nL.mono (fun k _ hk=>Or.inr (Or.inr (ef k hk)));exact⟨dH.aei lD tH Ae hg6,UU.setCell (p:=⟨b,1,none⟩) (fun _=>Or.inl rfl) _,by simp[World.cell?,tH],by simp[World.frozen?,tH]⟩
theorem kM.aiX{gv wv:Value}{gs:List (aQ bE)}{ws:List (bK bE)}(h:dH base w b gv wv gs ws)(hf:Fr aS w w'):kM base w b gv wv gs ws w' :=
 ⟨gv,wv,h.dm hf,hf.mono (fun _ _ h=>absurd h id),fun _ hk=>Or.inl hk⟩
def aiY(w:World)(ws:List (bK bE))(o:gG)(proxy:Bool)(i:Value)(wr:World):Prop :=
 ∃k:Nat,k<=ws.length/\i=.int .i64 k/\(ws.take k).any (Bt o proxy)=false/\Fr aS w wr
theorem LN(base:Nat)(w:World)(b:Nat)(gv wv:Value)(gs:List (aQ bE))(ws:List (bK bE))(o:gG)(proxy:Bool)(h:dH base w b gv wv gs ws)(Fq:ws.length<34359738368) :
  aB 59 #[.pointer (some ⟨b,0,none⟩),.agg o.cells.toArray,.bool proxy] w (nI base w b gv wv gs (mB o proxy ws)):=by
 unfold gG.cells;have sS:=h.lt;have lD:=h.low;obtain⟨aw,cw,FJ⟩:=h.waits.form;subst FJ;have pq:Fr aS w _:=((ae aS w).alloc (.cells #[.bool o.aG,.string o.host,.int .i64 o.port] 32)).alloc (.cells wY 133);have b1:=aC (w.alloc (.cells #[.bool o.aG,.string o.host,.int .i64 o.port] 32)) (.cells wY 133)
 rw[show(w.alloc (.cells #[.bool o.aG,.string o.host,.int .i64 o.port] 32)).heap.size=w.heap.size+1 from aR]at b1;have b0:=Below.heap_alloc (w.alloc (.cells #[.bool o.aG,.string o.host,.int .i64 o.port] 32)) (.cells wY 133) w.heap.size aR;rw[aC]at b0;have h1:=h.dm pq;have c1:=h1.c1;have ZO:=O b0;have QC:=O b1;clear b0 b1;go_enter func59,ntmps59;go_wp2_with fail
 clear c1;generalize (w.alloc (.cells _ 32)).alloc _=W at *
 go_loopw[15] (aiY W ws o proxy) (fun i _=>ws.length-(intOf i).toNat)
 case atStart=>exact⟨0,aL _,rfl,rfl,ae _ _⟩
 case round =>
  obtain⟨k,hk,rfl,jv,cP⟩:=hrel;have Z7:=O jv;clear jv;by_cases fe:k<ws.length
  ·obtain⟨bk,c,dk,tu,r,ef,hr,hcell⟩:=(h1.dm cP).waits.at fe;cases dk;unfold maxLen at tu;have dS:=O (List.getElem?_eq_getElem fe);obtain⟨x,hx⟩:∃x,x=r.cells:=⟨_,rfl⟩;have lM:x.length=13:=by rw[hx];rfl
   have jx:=fun W=>run_storeCells_new (P:=prog) W 133 wY x (by rw[lM];rfl) (by rw[hx];exact ef);rw[<-hx]at hcell;have I9:=O (Br lM);have gX:Fr aS wr (wr.alloc (.cells x.toArray 133)):=(ae aS wr).alloc _;have qB:(wr.alloc (.cells x.toArray 133)).heap[wr.heap.size]?=some (.cells x.toArray 133 (0,0)):=aC _ _
   have nx:∀i u,r.cells[i]?=some u->(wr.alloc (.cells x.toArray 133)).cell? ⟨wr.heap.size,i,none⟩=some u:=fun i u hu=>by
    rw[<-hx]at hu;simp only[World.cell?,qB];simpa using hu
   have c0:=nx 0 _ rfl;have c1:=nx 1 _ rfl;have c2:=nx 2 _ rfl;have c3:=nx 3 _ rfl;have heq:=jG r.o o;have hO3:=O (gX.keep (cP.keep ZO.o id) id);have sI:=cP.trans gX;have h3:=h1.dm sI;have rP:=O (hr.mono (fun _ _ h=>h.dm gX));have hq:=O (show Bt o proxy ws[k]=(r.o.lz o&&r.proxy==proxy)by unfold Bt;rw[hr.1,hr.2.1]);have HX:=O hx;have ui:=O qB;have xJ:=O ef
   have hlw:wr.heap.size<(wr.alloc (.cells x.toArray 133)).heap.size:=aR;clear hx hr gX qB nx ef;cases e1:r.o.lz o
   ·have LO:=O (any_take_succ dS.o Z7.o (by rw[hq.o,e1];rfl));go_wp2_with (first|((with_reducible refine dr 19 ?_);refine aY rfl 133 (.tmp 18) rfl bk (k*13) rfl x _ hcell underlying133 rfl I9.o ?_)|((with_reducible refine dr 22 ?_);refine aI rfl 32 (.tmp 4) rfl w.heap.size rfl _ _ (0,0) _ hO3.o underlying32 rfl af ?_)|fail)
    go_roundw
    case rel=>exact⟨k+1,ab,bg,LO.o,sI⟩
    case measure=>simp[intOf];omega
   ·cases e2:r.proxy==proxy
    ·have LO:=O (any_take_succ dS.o Z7.o (by rw[hq.o,e1,e2];rfl));go_wp2_with (first|((with_reducible refine dr 19 ?_);refine aY rfl 133 (.tmp 18) rfl bk (k*13) rfl x _ hcell underlying133 rfl I9.o ?_)|((with_reducible refine dr 22 ?_);refine aI rfl 32 (.tmp 4) rfl w.heap.size rfl _ _ (0,0) _ hO3.o underlying32 rfl af ?_)|fail)
     go_roundw
     case rel=>exact⟨k+1,ab,bg,LO.o,sI⟩
     case measure=>simp[intOf];omega
    ·have htk:=O (G5 Z7.o dS.o (by rw[hq.o,e1,e2];rfl));obtain⟨rs,ho,hb⟩:=h3.waits;have vN:=O (show(rs.map bK.cells).length=ws.length by rw[ai,hb.len]);have qV:=O (GZ base bk cw k (k+1) (rs.map bK.cells) _ (by rw[vN.o];exact ho) ab (by rw[vN.o];omega));rw[vN.o,show((k+1:Nat):Int)=(k:Int)+1 from ab]at qV;have aow:bk<w.heap.size:=by obtain⟨cc,e⟩:=h.wW (k:=bk) rfl;exact bq e
     have d1:=h3.c1;have R0:=pq.trans sI;have b1v:=O (sI.keep QC.o id);have avu:w.heap.size+1<W.heap.size:=bq QC.o;have xI:W.heap.size<=wr.heap.size:=cP.size;have hne:∀j,dy b gv (.slice (some ⟨bk,0,none⟩) ws.length cw) j->j<w.heap.size:=fun j hj=>by
      rcases hj with hj|hj|hj
      ·omega
      ·obtain⟨cc,e⟩:=h.ur hj;exact bq e
      ·obtain⟨cc,e⟩:=h.wW hj;exact bq e
     have hxz:=O (show(wY:bT).size=x.toArray.size from VJ.trans (by simp[lM]));have mU:=O (show x.toArray.all (·.oneCell')=true from b_ (by rw[HX.o];exact xJ.o));have hxa:=O (show(prog.info? 133).map (·.size)=some x.toArray.size by rw[aX];exact I9.o);clear sI
     go_wp2_with (first|((with_reducible refine dr 19 ?_);refine aY rfl 133 (.tmp 18) rfl bk (k*13) rfl x _ hcell underlying133 rfl I9.o ?_)|((with_reducible refine dr 22 ?_);refine aI rfl 32 (.tmp 4) rfl w.heap.size rfl _ _ (0,0) _ hO3.o underlying32 rfl af ?_)|fail)
     clear jx hcell c0 c1 c2 c3 d1 hO3 heq;generalize wr.alloc (.cells x.toArray 133)=V at *
     refine qV.o.mono ?_;rintro e w2⟨rfl,rk,dE⟩;obtain⟨h4,TZ,d2,e2'⟩:=G8 h3 hb (by exact rk) dE;obtain⟨l,hl⟩:∃l,l=ws.take k++ws.drop (k+1):=⟨_,rfl⟩;have hm:k+(ws.length-(k+1))=l.length:=by rw[hl,aK,aJ,bM];omega
     rw[<-hl]at h4;rw[<-hl]at htk;rw[hm]at h4 TZ ⊢;clear hl hm;have LJ:sG base V (own (.slice (some ⟨bk,0,none⟩) ws.length cw)):=ho.off (ay _) ag;have LK:sG base V (one bk):=fun j hj hl=>LJ j (by have e:j=bk:=hj;rw[e];rfl) hl;have Af:=dE.keep ui.o (fun h=>by have e:wr.heap.size=bk:=h;omega);have VE:=dE.keep b1v.o (fun hh=>by have e:w.heap.size+1=bk:=hh;omega);have wh:=rP.o.mono (fun _ _ h=>h.fr dE LK)
     have VF:w2.heap[b]?=some (.cells #[gv,.slice (some ⟨bk,0,none⟩) ws.length cw] 89 (0,0)):=dE.keep h3.eN (fun h=>h3.wb (by have e:b=bk:=h;rw[e];rfl));have kC:Fr (one b) w2 (w2.setCell ⟨b,1,none⟩ (.slice (some ⟨bk,0,none⟩) l.length cw)):=(ae (one b) w2).setCell (p:=⟨b,1,none⟩) (fun _=>rfl) _;have VG:sG base w2 (one b):=by
      rintro j rfl _;exact⟨lD,fun cc f e=>by rw[VF]at e;cases e⟩
     have Eo:=O (kC.keep Af (fun h=>by have e:wr.heap.size=b:=h;omega));have R2:=O (kC.keep VE (fun h=>by have e:w.heap.size+1=b:=h;omega));have yb:=O (wh.mono (fun _ _ h=>h.fr kC VG));have hFw:=O (show Fr (dy b gv (.slice (some ⟨bk,0,none⟩) ws.length cw)) w (w2.setCell ⟨b,1,none⟩ (.slice (some ⟨bk,0,none⟩) l.length cw))from gl (R0.mono (fun _ _ h=>absurd h id)) TZ (fun _ _ h=>h))
     have lA:∀j,dy b gv (.slice (some ⟨bk,0,none⟩) l.length cw) j->dy b gv (.slice (some ⟨bk,0,none⟩) ws.length cw) j:=fun j hj=>by
      rcases hj with h|h|h
      ·exact Or.inl h
      ·exact Or.inr (Or.inl h)
      ·exact Or.inr (Or.inr h)
     have H4:=O h4;clear qV rk ho hb VF kC VG Af VE wh TZ LK LJ h3 R0 ui rP b1v h4;go_wp2_with (first|((with_reducible refine dr 41 ?_);refine aI rfl 133 (.tmp 9) rfl wr.heap.size rfl _ x.toArray (0,0) _ Eo.o underlying133 rfl hxa.o ?_)|((with_reducible refine cZ 133 ?_);refine aF rfl 133 (.tmp 6) (.tmp 41) rfl (w.heap.size+1) x.toArray rfl rfl _ wY R2.o hxa.o hxz.o mU.o ?_)|fail)
     refine aW (results_cell_tmp bD _ _ (w.heap.size+1) 133 x.toArray (0,0) _ rfl (a_ _ (w.heap.size+1) _ _ _ _ R2.o) underlying133 rfl hxa.o) rfl ?_;unfold nI;rw[htk.o]
     have hFr:Fr (one (w.heap.size+1)) (w2.setCell ⟨b,1,none⟩ (.slice (some ⟨bk,0,none⟩) l.length cw)) ((w2.setCell ⟨b,1,none⟩ (.slice (some ⟨bk,0,none⟩) l.length cw)).setRow (w.heap.size+1) x.toArray):=(ae (one (w.heap.size+1)) _).setRow (fun _=>rfl) _;have rZ:sG base (w2.setCell ⟨b,1,none⟩ (.slice (some ⟨bk,0,none⟩) l.length cw)) (one (w.heap.size+1)):=by
      rintro j rfl _;exact⟨ab,fun cc f e=>by rw[R2.o]at e;cases e⟩
     refine⟨⟨_,_,H4.o.fr hFr rZ ?_ ?_ ?_,hFw.o.step hFr ?_,fun j hj=>Or.inl (lA j hj)⟩,r,by rw[HX.o];rfl,yb.o.mono (fun _ _ h=>h.fr hFr rZ),xJ.o⟩
     ·intro hh;have e:b=w.heap.size+1:=hh;omega
     ·intro j hj hh;have e:j=w.heap.size+1:=hh;have:=hne j (lA j (Or.inr (Or.inl hj)));omega
     ·intro j hj hh;have e:j=w.heap.size+1:=hh;have:=hne j (lA j (Or.inr (Or.inr hj)));omega
     ·intro j hj hh;have e:j=w.heap.size+1:=hh;omega
  ·have hs:=O (Et (o:=o) (proxy:=proxy) (l:=ws) (by have h:=Z7.o;rw[aD ab]at h;exact h));have qw:=O (cP.keep QC.o id);have HF:=pq.trans cP;have hp:=kM.aiX h (HF.setRow (g:=w.heap.size+1) (fun h=>absurd h ab) wY);go_wp2_with (first|((with_reducible refine cZ 133 ?_);refine aF rfl 133 (.tmp 6) (.tmp 43) rfl (w.heap.size+1) wY rfl rfl _ wY qw.o af rfl QE ?_)|fail)
   refine aW (results_cell_tmp bD _ _ (w.heap.size+1) 133 wY (0,0) _ rfl (a_ wr (w.heap.size+1) _ _ _ _ qw.o) underlying133 rfl af) rfl ?_;unfold nI;rw[hs.o];exact⟨hp,rfl⟩
def Z9(p:aj):aj:=p.extract 0 (Lib.lastIndexByte p 47+1).toNat
theorem lastIndexByte_bounds(s:aj)(c:Int): -1<=Lib.lastIndexByte s c/\Lib.lastIndexByte s c+1<=s.size:=by
 rcases Lib.lastIndexByte_spec s c with ⟨e,_⟩|⟨i,hi,e,_⟩
 ·rw[e];omega
 ·rw[e];omega
theorem Z_(p:aj)(w:World)(hs:p.size<4611686018427387904):aB 117 #[.string p] w fun e w'=>e=.returned (.string (Z9 p))/\w=w':=by
 have hbd:=lastIndexByte_bounds p 47;have hd:=O (show Z9 p=p.extract 0 (Lib.lastIndexByte p 47+1).toNat from rfl);go_enter func117,ntmps117;go_wp2_with fail
 refine(strings_LastIndexByte p 47 hs w).mono ?_;rintro e w1⟨rfl,rfl⟩;generalize Lib.lastIndexByte p 47=k at *
 have h1:(0:Int)<=k+1:=ab;have h2:k+1<=(p.size:Int):=ab;go_wp2;go_ret;exact⟨by rw[hd.o];rfl,rfl⟩
theorem dx.lit(base:Nat)(w:World)(x:aj)(hk:k=w.heap.size):dx base (w.alloc (.cells #[.string x] 9)) (.slice (some ⟨k,0,none⟩) 1 1) [x]:=by
 subst hk;exact dx.aoH base w x
def ob(a:fQ bE)(proxy:Bool)(path:aj):bE :=
 if proxy then [⟨#[47]⟩]else if a.scheme≠1/\a.dom.length=0 then [⟨#[47]⟩]else if a.scheme=1 then [Z9 path]else a.dom
def rG(base:Nat)(w:World)(l:bE)(e:Ending)(w':World):Prop:=∃v,e=.returned v/\dx base w' v l/\Fr aS w w'
theorem R8(base:Nat)(r:fQ Value)(a:fQ bE)(proxy:Bool)(path:aj)(w:World)(hr:r.Reads (dx base w) a)(hs:path.size<4611686018427387904) :
  aB 60 #[.agg r.cells.toArray,.bool proxy,.string path] w (rG base w (ob a proxy path)):=by
 obtain⟨e1,e2,e3,e4,e5,e6,e7,Bu⟩:=hr;obtain⟨ad,cd,yc⟩:=Bu.rd.form;have hAC:r.cells=[.int .i64 a.scheme,.string r.aM,.string r.bu,.string r.cz,.bool r.cD,.string r.eJ,.bool r.cR,.slice ad a.dom.length cd]:=by unfold fQ.cells;rw[e1,yc]
 rw[yc]at Bu;have gX:Fr aS w (w.alloc (.cells #[.int .i64 a.scheme,.string r.aM,.string r.bu,.string r.cz,.bool r.cD,.string r.eJ,.bool r.cR,.slice ad a.dom.length cd] 112)):=(ae aS w).alloc _;have td:=Bu.dm gX;rw[hAC];clear hAC e1 e2 e3 e4 e5 e6 e7 Bu yc;cases proxy with
 |true =>
  have qI:=O (show ob a true path=[⟨#[47]⟩]from rfl);go_enter func60,ntmps60;go_wp2;go_ret;unfold rG;rw[qI.o];exact⟨_,rfl,dx.lit base _ _ aR,((ae aS w).alloc _).alloc _⟩
 |false =>
  by_cases h1:a.scheme=1
  ·have qI:=O (show ob a false path=[Z9 path]by unfold ob;simp[h1]);go_enter func60,ntmps60;go_wp2_with fail
   refine(Z_ path _ hs).mono ?_;rintro e w1⟨rfl,rfl⟩;go_wp2;go_ret;unfold rG;rw[qI.o];exact⟨_,rfl,dx.lit base _ _ aR,((ae aS w).alloc _).alloc _⟩
  ·by_cases h2:a.dom.length=0
   ·have qI:=O (show ob a false path=[⟨#[47]⟩]by unfold ob;rw[aq ag,az ⟨h1,h2⟩]);have h2':((a.dom.length:Nat):Int)=0:=ab;go_enter func60,ntmps60;go_wp2;go_ret;unfold rG;rw[qI.o];exact⟨_,rfl,dx.lit base _ _ aR,((ae aS w).alloc _).alloc _⟩
   ·have qI:=O (show ob a false path=a.dom by unfold ob;rw[aq ag,aq (fun h=>h2 h.2),aq h1]);have qw:(a.scheme !=1)=true:=by simp[h1]
    have kJ:(((a.dom.length:Nat):Int)==0)=false:=by simp;intro h;exact h2 (by rw[h];rfl)
    have CL:=O (rY base _ _ _ td);go_enter func60,ntmps60;go_wp2_with fail
    refine CL.o.mono ?_;rintro e w1⟨a',c',rfl,Yi,hf⟩;go_wp2;go_ret;unfold rG;rw[qI.o];exact⟨_,rfl,Yi,gX.trans hf⟩
theorem Bw:(prog.info? 155).map (fun i=>(i.zero,i.size,i.bytes))=some (some (.agg FV),12,144):=af
theorem Sa{base:Nat}{w2 w4:World}{b:Nat}{v0 v:Value}{fs:List ez}{p:ez}{gg cap:Nat}(hl:base<=b)(hb:w2.heap[b]?=some (.cells #[v0] 92 (0,0)))(Ve:¬own v b)(kS:Fr (own v) w2 w4)
  (fg:w4.ownsRow base 155 12 (.slice (some ⟨gg,0,none⟩) (fs.length+1) cap) (fs.length+1) ((fs.map ez.cells).flatten++p.cells)) :
  eU base (w4.setCell ⟨b,0,none⟩ (.slice (some ⟨gg,0,none⟩) (fs.length+1) cap)) b (.slice (some ⟨gg,0,none⟩) (fs.length+1) cap) (fs++[p]):=by
 refine pd hl (kS.keep hb Ve) ⟨?_,?_⟩
 ·intro x hx;obtain⟨q,_,rfl⟩:=bZ.1 hx;exact⟨rfl,q.uu⟩
 ·rw[bI,ey,aK,ai];simpa using fg
def ai2(base:Nat)(w1:World)(b:Nat)(v:Value)(ps ls:List ez)(t:Value)(wr:World):Prop :=
 ∃k vk,k<=ls.length/\t=.int .i64 k/\eU base wr b vk ((ls.take k).foldl FH ps)/\Fr (iH b v) w1 wr/\∀j,iH b vk j->iH b v j\/w1.heap.size<=j
theorem Sb{ps ls:List ez}{p:ez}(h:ls[k]?=some p):(ls.take (k+1)).foldl FH ps=((ls.take k).foldl FH ps).filter (fun q=>!p.like q)++[p]:=by
 rw[d_ h,List.foldl_append];rfl
theorem rA(ps:List ez)(f:ez->Bool):(ps.map ez.cells).filter (fun x=>!f (Je x))=(ps.filter (fun q=>!f q)).map ez.cells:=by
 rw[List.filter_map];rfl
theorem Sc{S:dF}{U w3:World}{x:aZ}{t:TypeId}(hU:U.heap[n]?=some (.cells x.toArray t (0,0)))(hf:Fr S U w3)(hn:¬S n):∀j u,x[j]?=some u->w3.cell? ((⟨n,0,none⟩:Addr).add j)=some u:=by
 intro j u hj;have h:=hf.keep hU hn;have e:(Addr.add ⟨n,0,none⟩ j)=⟨n,j,none⟩:=by unfold Addr.add;split<;>simp_all
 rw[e];simp only[World.cell?,h];simpa using hj
theorem LR(base:Nat)(w:World)(b:Nat)(v:Value)(ps:List ez)(lv:Value)(ls:List ez)(now:Int)(h:eU base w b v ps)(hl:q_ w lv ls)(se:ls≠ []->∀k,lv.ownBlock=some k->¬iH b v k)(hlen:ps.length+ls.length<1000000) :
  aB 67 #[.pointer (some ⟨b,0,none⟩),lv,.int .i64 now] w fun e w'=>e=.returned (.tuple #[])/\Ew base w b v (uN ps ls now) w':=by
 obtain⟨al,cl,hlf⟩:=dU hl;rw[ai]at hlf;subst hlf;obtain⟨w1,oJ⟩:∃w1,w1=w.alloc (.cells #[.int .i64 now] 3):=⟨_,rfl⟩;have dk:Fr aS w w1:=by rw[oJ];exact(ae _ _).alloc _
 have AY:w1.heap[w.heap.size]?=some (.cells #[.int .i64 now] 3 (0,0)):=by rw[oJ];exact aC _ _
 have Cy:w.heap.size<w1.heap.size:=bq AY;have h1:=h.dm dk;have hl1:q_ w1 (.slice al ls.length cl) ls:=bh hl dk;have HLT:=O (show∀k,iH b v k->k<w.heap.size from fun k hk=>h.jq hk);have IV:=O oJ;have ln:=O dk;have Ey:=O AY;clear hl oJ dk AY h;go_enter func67,ntmps67;go_wp2_with fail
 rw[<-IV.o];go_loopw[11] (ai2 base w1 b v ps ls) (fun t _=>ls.length-(intOf t).toNat)
 case atStart=>exact⟨0,v,aL _,rfl,h1,ae _ _,fun _ h=>Or.inl h⟩
 case round =>
  obtain⟨k,vk,hk,rfl,hb,cP,Fw⟩:=hrel;have lD:=hb.low;have Fp:=KT (ls.take k) ps;rw[aJ]at Fp;by_cases fe:k<ls.length
  ·have pE:(k:Int)<(ls.length:Int):=ab;have dS:=O (List.getElem?_eq_getElem fe);generalize ls[k]=p at dS;have lO:=O (Sb (ps:=ps) dS.o);generalize (ls.take k).foldl FH ps=fs at hb Fp lO;have ml:dZ 12 wr (.slice al ls.length cl) (ls.map ez.cells):=dZ.fr hl1 cP (se (fun e=>by rw[e]at dS;have:=dS.o;simp at this));rcases ml.2 with ⟨_,_,_,e,_⟩|⟨bk,of,c,hf,g1,g2,g3,g4⟩
   ·have:ls.length=0:=by have:=ar List.length e;simpa using this
    omega
   rw[ai]at hf g1;cases hf;unfold maxLen at g2;obtain⟨x,hx⟩:∃x,x=p.cells:=⟨_,rfl⟩;have lM:x.length=12:=by rw[hx];rfl
   have ef:∀u∈x,u.oneCell'=true:=by rw[hx];exact p.uu
   have hcell:=g4 k x (by rw[List.getElem?_map,dS.o,hx];rfl);have jx:=fun W=>run_storeCells_new (P:=prog) W 155 FV x (by rw[lM];rfl) ef;have Ed:(prog.info? 155).map (·.size)=some x.length:=Bv lM;clear g4 ml;have HX:=O hx;have I9:=O Ed;clear hx Ed;go_wp2_with (first|((with_reducible refine dr 14 ?_);refine aY rfl 155 (.tmp 13) rfl bk (of+k*12) rfl x _ hcell underlying155 rfl I9.o ?_)|fail)
   have dE:Fr aS wr (wr.alloc (.cells x.toArray 155)):=(ae _ _).alloc _;have Dx:(wr.alloc (.cells x.toArray 155)).heap[wr.heap.size]?=some (.cells x.toArray 155 (0,0)):=aC _ _;have jz:=cP.alloc (.cells x.toArray 155);have kJ:=hb.dm dE;have Yx:¬own vk wr.heap.size:=fun hk=>by have:=hb.Ex hk;omega
   have kj:b<wr.heap.size:=hb.lt;have Zb:=O (show wr.heap.size<(wr.alloc (.cells x.toArray 155)).heap.size from bq Dx);clear jx hcell dE;generalize wr.alloc (.cells x.toArray 155)=W2 at *
   obtain⟨ak,ck,T6⟩:=kJ.form;subst T6;obtain⟨LS,aaa⟩:∃LS,LS=fs.filter (fun q=>!p.like q):=⟨_,rfl⟩;have Aa:LS.length<=fs.length:=by rw[aaa];exact bW _ _
   rw[<-aaa]at lO
   have HK:=O (show∀U,Fr (iH b (.slice ak fs.length ck)) W2 U->(U.cell? ⟨wr.heap.size,0,none⟩=some (.bool p.dt.aG)/\U.cell? ⟨wr.heap.size,1,none⟩=some (.string p.dt.host)/\U.cell? ⟨wr.heap.size,2,none⟩=some (.int .i64 p.dt.port)/\U.cell? ⟨wr.heap.size,3,none⟩=some (.bool p.o.aG)/\U.cell? ⟨wr.heap.size,4,none⟩=some (.string p.o.host)/\U.cell? ⟨wr.heap.size,5,none⟩=some (.int .i64 p.o.port)/\U.cell? ⟨wr.heap.size,6,none⟩=some (.string p.path)/\U.cell? ⟨wr.heap.size,7,none⟩=some (.string p.query)/\U.cell? ⟨wr.heap.size,8,none⟩=some (.bool p.f_)/\U.cell? ⟨wr.heap.size,9,none⟩=some (.string p.method)/\U.cell? ⟨wr.heap.size,10,none⟩=some (.string p.head)/\U.cell? ⟨wr.heap.size,11,none⟩=some (.int .i64 p.qh))from fun U hU=>by
    have j2:=hU.keep Dx (fun h=>by
     rcases h with h|h
     ·omega
     ·exact Yx h)
    rw[HX.o]at j2;have hc:∀i u,p.cells[i]?=some u->U.cell? ⟨wr.heap.size,i,none⟩=some u:=fun i u hu=>by simp only[World.cell?,j2];simpa using hu
    exact⟨hc 0 _ rfl,hc 1 _ rfl,hc 2 _ rfl,hc 3 _ rfl,hc 4 _ rfl,hc 5 _ rfl,hc 6 _ rfl,hc 7 _ rfl,hc 8 _ rfl,hc 9 _ rfl,hc 10 _ rfl,hc 11 _ rfl⟩)
   have HBC:=O (show∀U,Fr (own (.slice ak fs.length ck)) W2 U->U.cell? ⟨b,0,none⟩=some (.slice ak fs.length ck)from fun U hU=>by
    have j1:=hU.keep kJ.eN kJ.nb;simp[World.cell?,j1])
   have J3:(⟨b,0,none⟩:Addr).block<W2.heap.size->iH b (.slice ak fs.length ck) (⟨b,0,none⟩:Addr).block:=fun _=>Or.inl rfl;have d0:=HBC.o W2 (ae _ _);have dA:∀o:Obj,(W2.alloc o).cell? ⟨b,0,none⟩=some (.slice ak fs.length ck):=fun o=>HBC.o _ ((ae _ _).alloc o);have ai4:=O (show∀U,Fr (own (.slice ak fs.length ck)) W2 U->U.frozen? ⟨b,0,none⟩=false from fun U hU=>by
    have j1:=hU.keep kJ.eN kJ.nb;simp[World.frozen?,j1])
   have fH:=O (show∀U,Fr aS W2 U->aB 135 #[.slice ak fs.length ck,.func (.func 137) #[] #[.pointer (some ⟨wr.heap.size,0,none⟩)]] U fun e w'=>∃a c,e=.returned (.slice a LS.length c)/\OwnRows base 155 12 w' (.slice a LS.length c) (LS.map ez.cells)/\Fr (own (.slice ak fs.length ck)) U w'/\own (.slice a LS.length c)=own (.slice ak fs.length ck)from fun U hU=>by
    have hd:=qk base 137 #[.pointer (some ⟨wr.heap.size,0,none⟩)] (fun y=>p.like (Je y)) (.slice ak fs.length ck) (fs.map ez.cells) U call137 (fun y hy u hu=>by
     obtain⟨q,_,rfl⟩:=bZ.1 hy;have hpu:=hu.keep (hU.keep Dx id) Yx;rw[HX.o]at hpu;exact VT p q wr.heap.size u hpu) (kJ.rows.fr hU (fun _ _ h=>h))
    rw[rA,ai, <-aaa]at hd;exact hd)
   clear aaa;obtain⟨i0,qN,pD,ll,lF⟩:=info_parts Bw;have hnW:¬own (.slice ak fs.length ck) W2.heap.size:=fun hk=>by have:=kJ.Ex hk;omega
   have aoK:base<=W2.heap.size:=by have:=Zb.o;omega
   have P0:=HK.o W2 (ae _ _);obtain⟨x0,x1,x2,x3,x4,x5,x6,x7,x8,x9,Z2,Z3⟩:=P0;go_region_law (first
     |((with_reducible refine mX ⟨some 21,_,_,_,_,_⟩ ?_)
       refine Bh rfl 135 _ (by go_simp) (fH.o _ (by repeat(first|exact ae _ _|apply aA|apply bB))) ?_
       intro e w3 qV
       obtain⟨a3,c3,rfl,fC,iz,J7⟩:=qV
       refine⟨_,rfl,?_⟩
       have il:Fr (own (.slice ak fs.length ck)) W2 w3:=gl (S:=own (.slice ak fs.length ck)) (by repeat(first|exact ae _ _|apply aA|apply bB)) iz (fun _ _ h=>h)
       have ai5:Fr (iH b (.slice ak fs.length ck)) W2 w3:=il.mono (fun _ _ h=>Or.inr h)
       have VV:w3.ownsRow base 155 12 (.slice a3 LS.length c3) LS.length (LS.map ez.cells).flatten:=by
         have h:=fC.2
         rw[ai]at h
         exact h
       have IL:=HK.o w3 ai5
       have tO:base<=w3.heap.size:=by have:=il.size;omega)
     |((with_reducible refine mX ⟨some 24,_,_,_,_,_⟩ ?_)
       (first
         |refine step_append_lies _ bD _ _ _ bD base 155 i0 _ 12 144 underlying90 qN pD ll lF rfl ab (.slice a3 LS.length c3) LS.length _ bD (by repeat(first|exact VV|apply World.ownsRow.alloc|apply World.ownsRow.drew)) ⟨w3.heap.size,0,none⟩ 1 1 p.cells bD bD (kY w3 p.cells _) p.uu ab ft ab bH (w3.heap.size+1) aR ?_
         |refine step_append_lies _ bD _ _ _ bD base 155 i0 _ 12 144 underlying90 qN pD ll lF rfl ab (.slice a3 LS.length c3) LS.length _ bD (by repeat(first|exact VV|apply World.ownsRow.alloc|apply World.ownsRow.drew)) ⟨W2.heap.size,0,none⟩ 1 1 p.cells bD bD (Sc (by exact aC _ _) iz hnW) p.uu ab ft ab ab (w3.heap.size) aR ?_)
       intro gg cap w4 fg jJ dS LH
       have j6:Fr (own (.slice ak fs.length ck)) W2 w4:=fy (by repeat(first|exact il|apply aA|apply bB)) jJ (fun k hk _=>by rw[<-J7];exact hk)
       have ai6:Fr (iH b (.slice ak fs.length ck)) W2 w4:=j6.mono (fun _ _ h=>Or.inr h)
       have k4:=HBC.o w4 j6
       have e4:=ai4.o w4 j6))
   all_goals
    have h5:=Sa (v:=.slice ak fs.length ck) lD kJ.eN kJ.nb j6 fg;rw[<-lO.o]at h5;have hF5:Fr (iH b v) w1 (w4.setCell ⟨b,0,none⟩ (.slice (some ⟨gg,0,none⟩) (LS.length+1) cap)):=jz.step (ai6.setCell (p:=⟨b,0,none⟩) J3 _) (fun j hj hb=>by
     rcases Fw j hb with h|h
     ·exact h
     ·omega)
    have Ut:w1.heap.size<=w3.heap.size:=by have h1:=jz.size;have h2:=il.size;omega
    have RY:∀j,iH b (.slice (some ⟨gg,0,none⟩) (LS.length+1) cap) j->iH b v j\/w1.heap.size<=j:=by
     rintro j(hj|hj)
     ·exact Or.inl (Or.inl hj)
     ·have e:gg=j:=by simpa[own,Value.ownBlock]using hj
      subst e;rcases dS with dS|dS
      ·exact Fw gg (Or.inr (by rw[<-J7];exact dS))
      ·exact Or.inr ab
    have H5:=O (And.intro h5 (And.intro hF5 RY));clear fH HK HBC ai4 fg jJ j6 ai6 il ai5 VV k4 e4 IL x0 x1 x2 x3 x4 x5 x6 x7 x8 x9 Z2 Z3 d0 dA J3 h5 hF5 RY dS J7 fC iz;generalize w4.setCell ⟨b,0,none⟩ (.slice (some ⟨gg,0,none⟩) (LS.length+1) cap)=w5 at *
    go_wp2;go_roundw
    case rel=>exact⟨k+1,_,ab,bg,H5.o.1,H5.o.2.1,H5.o.2.2⟩
    case measure=>simp[intOf];omega
  ·have pE:¬(k:Int)<(ls.length:Int):=ab;have Rh:ls.take k=ls:=aD ab;rw[Rh]at hb Fp;obtain⟨fs,kR⟩:∃fs,fs=ls.foldl FH ps:=⟨_,rfl⟩;rw[<-kR]at hb Fp;have RX:¬own vk w.heap.size:=fun hk=>by
    rcases Fw _ (Or.inr hk)with h|h
    ·have:=HLT.o _ h;omega
    ·omega
   have aoL:=cP.keep Ey.o (fun hk=>by have:=HLT.o _ hk;omega);have hd:=qk base 139 #[.pointer (some ⟨w.heap.size,0,none⟩)] (fun y=>!(Je y).alive now) vk (fs.map ez.cells) wr call139 (fun y hy u hu=>by
    obtain⟨q,_,rfl⟩:=bZ.1 hy;exact VU q now w.heap.size u (hu.keep aoL RX)) hb.rows
   rw[rA fs (fun q=>!q.alive now),ai]at hd;obtain⟨ys,KZ⟩:∃ys,ys=fs.filter (fun q=>!!q.alive now):=⟨_,rfl⟩;rw[<-KZ]at hd;have hyl:ys.length<=fs.length:=by rw[KZ];exact bW _ _
   have gO:=O (show uN ps ls now=ys.drop (ys.length-32)by
    rw[KZ,kR];unfold uN;simp only[Bool.not_not])
   obtain⟨ak,ck,T6⟩:=hb.form;have hb':=hb;subst T6;have tZ:=O hd;have c0:=hb.c0;have e0:=hb.free 0;have HB:=O hb;have qD:=O cP;have T7:=O Fw;have avC:b<w1.heap.size:=Nat.lt_trans (HLT.o b (Or.inl rfl)) Cy;clear hd KZ kR hb hb' cP Fw;go_wp2_with fail
   refine tZ.o.mono ?_;rintro e w2⟨a2,c2,rfl,rk,dE,J7⟩;have LU:=dE.keep HB.o.eN HB.o.nb;have d0:w2.cell? ⟨b,0,none⟩=some (.slice ak fs.length ck):=by simp[World.cell?,LU]
   have e2:w2.frozen? ⟨b,0,none⟩=false:=by simp[World.frozen?,LU]
   have h3:=pd HB.o.low LU rk;have Fx:Fr (iH b v) w1 (w2.setCell ⟨b,0,none⟩ (.slice a2 ys.length c2)):=(qD.o.step dE (fun j hj ho=>by
    rcases T7.o j (Or.inr ho)with h|h
    ·exact h
    ·omega)).setCell (p:=⟨b,0,none⟩) (fun _=>Or.inl rfl) _
   have ai7:∀j,iH b (.slice a2 ys.length c2) j->iH b v j\/w1.heap.size<=j:=by
    rintro j(hj|hj)
    ·exact Or.inl (Or.inl hj)
    ·exact T7.o j (Or.inr (by rw[<-J7];exact hj))
   have H3:=O (And.intro h3 (And.intro Fx ai7));have d3:=h3.c0;have e3:=h3.free 0;clear h3 Fx ai7 tZ rk LU c0 e0 dE HB qD T7 J7;by_cases h32:32<ys.length
   ·have aoM:(32:Int)<(ys.length:Int):=ab;have qq:(0:Int)<(ys.length:Int)-32:=ab;obtain⟨n,hn⟩:∃n:Nat,ys.length=n+32:=⟨ys.length-32,ab⟩;obtain⟨gg,rfl⟩:∃gg,a2=some ⟨gg,0,none⟩:=by
     rcases H3.o.1.rows.2.2 with ⟨hv,hq⟩|⟨g,cap,cur,hv,_⟩
     ·rw[ai]at hq;omega
     ·injection hv with h1;exact⟨g,h1⟩
    have ml:=H3.o.1.rows;have tu:(ys.map ez.cells).length=ys.length:=ai _;have qV:=R_ base gg c2 0 n (ys.map ez.cells) (w2.setCell ⟨b,0,none⟩ (.slice (some ⟨gg,0,none⟩) ys.length c2)) (by rw[tu];exact ml) ab ab;rw[tu]at qV;have VW:=O qV;have HN:=O hn;clear qV hn ml tu;go_wp2_with fail
    rw[show((ys.length:Int)-32)=(n:Int)from by have:=HN.o;omega];clear d0 e2;generalize w2.setCell ⟨b,0,none⟩ (.slice (some ⟨gg,0,none⟩) ys.length c2)=w3 at *
    refine VW.o.mono ?_;rintro e w6⟨rfl,zN,nL⟩;have ef:∀j,one gg j->own (.slice (some ⟨gg,0,none⟩) ys.length c2) j:=fun j hj=>by have e:j=gg:=hj;rw[e];rfl
    have aab:=nL.keep H3.o.1.eN (fun h=>H3.o.1.nb (ef _ h));have d6:w6.cell? ⟨b,0,none⟩=some (.slice (some ⟨gg,0,none⟩) ys.length c2):=by simp[World.cell?,aab]
    have e6:w6.frozen? ⟨b,0,none⟩=false:=by simp[World.frozen?,aab]
    rw[List.take_zero,List.nil_append, <-List.map_drop,bz]at zN;rw[bz];have h7:=pd H3.o.1.low aab zN;have TY:Fr (iH b v) w1 (w6.setCell ⟨b,0,none⟩ (.slice (some ⟨gg,0,none⟩) (ys.length-n) c2)):=(H3.o.2.1.step nL (fun j hj ho=>by
     rcases H3.o.2.2 j (Or.inr (ef j ho))with h|h
     ·exact h
     ·omega)).setCell (p:=⟨b,0,none⟩) (fun _=>Or.inl rfl) _
    have Z5:∀j,iH b (.slice (some ⟨gg,0,none⟩) (ys.length-n) c2) j->iH b v j\/w1.heap.size<=j:=by
     rintro j(hj|hj)
     ·exact Or.inl (Or.inl hj)
     ·exact H3.o.2.2 j (Or.inr hj)
    have H7:=O (And.intro h7 (And.intro TY Z5));clear h7 TY Z5 zN nL aab VW d3 e3;go_wp2;go_end0;refine⟨rfl,_,by rw[gO.o,show ys.length-32=n from by have:=HN.o;omega];exact H7.o.1,gl (ln.o.mono (fun _ _ h=>absurd h id)) H7.o.2.1 (fun _ _ h=>h),fun j hj=>?_⟩;rcases H7.o.2.2 j hj with h|h
    ·exact Or.inl h
    ·exact Or.inr ab
   ·have aoM:¬(32:Int)<(ys.length:Int):=ab;have qq:¬(0:Int)<(ys.length:Int)-32:=ab;go_wp2;go_end0;refine⟨rfl,_,by rw[gO.o,show ys.length-32=0 from ab,eI];exact H3.o.1,gl (ln.o.mono (fun _ _ h=>absurd h id)) H3.o.2.1 (fun _ _ h=>h),fun j hj=>?_⟩;rcases H3.o.2.2 j hj with h|h
    ·exact Or.inl h
    ·exact Or.inr ab
structure nA.Fit (x:nA):Prop where
 scheme:x.scheme.length<=100000
 token:x.token.length<=100000
 sZ:x.params.length<=16
 zH:∀p∈x.params,p.1.length<=99999/\p.2.length<=99999
def lX(w:World)(v:Value)(ps:List jF):Prop:=dZ 2 w v (ps.map oG)
def L5(w:World)(r:LZ)(x:nA):Prop:=r.1=bA x.scheme/\r.2.1=bA x.token/\lX w r.2.2 x.params
def uZ(w:World)(v:Value)(xs:List nA):Prop:=∃rs:List LZ,dZ 3 w v (rs.map Bx)/\lq (L5 w) rs xs
theorem V1.rd{x:nA}(h:V1 base w r x):L5 w r x:=⟨h.1,h.2.1,h.2.2.at⟩
theorem lG.at{xs:List nA}(h:lG base w v xs):uZ w v xs:=by
 obtain⟨rs,h1,h2⟩:=h;exact⟨rs,h1.at,h2.mono (fun _ _ h=>h.rd)⟩
theorem L5.fN{x:nA}(h:L5 w r x)(hf:Fr aS w w'):L5 w' r x:=⟨h.1,h.2.1,bh h.2.2 hf⟩
theorem uZ.fN{xs:List nA}(h:uZ w v xs)(hf:Fr aS w w'):uZ w' v xs:=by
 obtain⟨rs,h1,h2⟩:=h;exact⟨rs,h1.fN hf,h2.mono (fun _ _ h=>h.fN hf)⟩
theorem uZ.form{xs:List nA}(h:uZ w v xs):∃a c,v=.slice a xs.length c:=by
 obtain⟨rs,h1,h2⟩:=h;obtain⟨a,c,e⟩:=h1.form;exact⟨a,c,by rw[e,ai,h2.len]⟩
theorem lX.form(h:lX w v ps):∃a c,v=.slice a ps.length c:=by
 obtain⟨a,c,e⟩:=dU h;exact⟨a,c,by rw[e,ai]⟩
theorem lX.cells(h:lX w (.slice a n c) ps)(hk:ps[k]?=some p) :
  ∃bk o,a=some ⟨bk,o,none⟩/\n<=c/\c<=maxLen/\w.cell? ⟨bk,o+k*2,none⟩=some (.string (bA p.1))/\w.cell? ⟨bk,o+k*2+1,none⟩=some (.string (bA p.2)):=by
 have hl:=(List.getElem?_eq_some_iff.1 hk).1;rcases h.2 with ⟨_,_,_,e,_⟩|⟨bk,o,c',hf,h1,h2,h3,h4⟩
 ·have:ps.length=0:=by have:=ar List.length e;simpa using this
  omega
 ·cases hf;have hc:=h4 k (oG p) (by rw[List.getElem?_map,hk];rfl);exact⟨bk,o,rfl,h1,h2,hc 0 _ rfl,hc 1 _ rfl⟩
def aeP(ps:List jF)(name:Bs):Value:=.tuple #[.string (bA ((kB ps name).getD [])),.bool (kB ps name).isSome]
theorem V7{n:Bs}(h:ps[k]?=some p)(hp:dL p.1 n=true)(hn:(ps.take k).any (fun q=>dL q.1 n)=false):kB ps n=some p.2:=by
 unfold kB;have:ps.find? (fun q=>dL q.1 n)=some p:=by
  induction ps generalizing k with
  |nil=>simp at h
  |cons a l ih =>
   cases k with
   |zero=>simp at h;subst h;simp[hp]
   |succ k =>
    simp only[List.take_succ_cons,List.any_cons,eP]at hn;rw[List.find?_cons,hn.1];exact ih (by simpa using h) hn.2
 rw[this];rfl
theorem Sg{n:Bs}(hn:ps.any (fun q=>dL q.1 n)=false):kB ps n=none:=by
 unfold kB;have:ps.find? (fun q=>dL q.1 n)=none:=by
  rw[List.find?_eq_none];intro q hq;rw[fc]at hn;exact hn q hq
 rw[this];rfl
def ajl(ps:List jF)(n:Bs)(w:World)(t:Value)(wr:World):Prop:=∃k:Nat,k<=ps.length/\t=.int .i64 k/\(ps.take k).any (fun q=>dL q.1 n)=false/\Fr aS w wr
def QH(ps:List jF):Prop:=ps.length<=1000000/\∀p∈ps,p.1.length<17592186044416/\p.2.length<17592186044416
theorem aaq(sc tok:aj)(pv:Value)(ps:List jF)(name:aj)(w:World)(h:lX w pv ps)(hz:QH ps)(hn:name.size<17592186044416) :
  aB 172 #[.agg #[.string sc,.string tok,pv],.string name] w fun e w'=>e=.returned (aeP ps name.data.toList)/\Fr aS w w':=by
 obtain⟨av,cv,hv⟩:=h.form;subst hv;obtain⟨w1,oJ⟩:∃w1,w1=w.alloc (.cells #[.string sc,.string tok,.slice av ps.length cv] 198):=⟨_,rfl⟩;have dk:Fr aS w w1:=by rw[oJ];exact(ae _ _).alloc _
 have GQ:lX w1 (.slice av ps.length cv) ps:=bh h dk;have IV:=O oJ;have HZ:=O hz;have Nj:=hz.1;clear oJ h hz;go_enter func172,ntmps172;go_wp2_with fail
 rw[<-IV.o];go_loopw[11] (ajl ps name.data.toList w1) (fun t _=>ps.length-(intOf t).toNat)
 case atStart=>exact⟨0,aL _,rfl,rfl,ae _ _⟩
 case round =>
  obtain⟨k,hk,rfl,J5,cP⟩:=hrel;have HN:=O J5;clear J5;by_cases fe:k<ps.length
  ·have pE:(k:Int)<(ps.length:Int):=ab;have dS:=O (List.getElem?_eq_getElem fe);have Yl:=O (HZ.o.2 _ (bO fe));generalize ps[k]=q at dS Yl;obtain⟨nm,vl⟩:=q;obtain⟨bk,of,rfl,h1,h2,c0,c1⟩:=lX.cells (bh GQ cP) dS.o;unfold maxLen at h2;simp only at c0 c1;obtain⟨wb,kj⟩:∃wb,wb=wr.alloc (.cells #[.string (bA nm),.string (bA vl)] 171):=⟨_,rfl⟩;have kC:Fr aS wr wb:=by rw[kj];exact(ae aS wr).alloc _
   have yd:wb.heap[wr.heap.size]?=some (.cells #[.string (bA nm),.string (bA vl)] 171 (0,0)):=by rw[kj];exact aC _ _
   have ri:=O kj;clear kj;go_wp2_with fail
   rw[<-ri.o];refine(mH (bA nm) name wb (by have h:=Yl.o.1;exact h) hn).mono ?_;rintro e w8⟨rfl,rQ⟩;rw[fZ];have NQ:=O ((cP.trans kC).trans rQ);cases pz:dL nm name.data.toList
   ·have qt:=O (wL dS.o HN.o pz);go_wp2;go_roundw
    case rel=>exact⟨k+1,ab,bg,qt.o,NQ.o⟩
    case measure=>simp[intOf];omega
   ·have HE:=O (V7 dS.o pz HN.o);have hb8:=rQ.keep yd id;have c1:w8.cell? ⟨wr.heap.size,1,none⟩=some (.string (bA vl)):=by simp[World.cell?,hb8]
    go_wp2;go_ret2;refine⟨?_,dk.trans NQ.o⟩;unfold aeP;rw[HE.o];rfl
  ·have pE:¬(k:Int)<(ps.length:Int):=ab;have HE:=O (show kB ps name.data.toList=none from Sg (by have h:=HN.o;rw[aD ab]at h;exact h));go_wp2;go_ret2;refine⟨?_,dk.trans cP⟩;unfold aeP;rw[HE.o];rfl
theorem uZ.cells{xs:List nA}{x:nA}(h:uZ w (.slice a n c) xs)(hk:xs[k]?=some x) :
  ∃bk o pv,a=some ⟨bk,o,none⟩/\n<=c/\c<=maxLen/\w.cell? ⟨bk,o+k*3,none⟩=some (.string (bA x.scheme))/\w.cell? ⟨bk,o+k*3+1,none⟩=some (.string (bA x.token))/\w.cell? ⟨bk,o+k*3+2,none⟩=some pv/\lX w pv x.params:=by
 obtain⟨rs,hr,hb⟩:=h;have hl:=(List.getElem?_eq_some_iff.1 hk).1;have vN:=hb.len;obtain⟨r,zj⟩:∃r,rs[k]?=some r:=⟨_,List.getElem?_eq_getElem ab⟩;obtain⟨x',UE,e1,e2,e3⟩:=hb.get zj;rw[hk]at UE;cases UE;rcases hr.2 with ⟨_,_,_,e,_⟩|⟨bk,o,c',hf,h1,h2,h3,h4⟩
 ·have:rs.length=0:=by have:=ar List.length e;simpa using this
  omega
 ·cases hf;have hc:=h4 k (Bx r) (by rw[List.getElem?_map,zj];rfl);exact⟨bk,o,r.2.2,rfl,h1,h2,by rw[<-e1];exact hc 0 _ rfl,by rw[<-e2];exact hc 1 _ rfl,hc 2 _ rfl,e3⟩
variable {H : Type} {enc : TypeId × Value → H} {W : World}
structure XS (w:World) (r:gC Value) (hs:List ig):Prop where
 eB:oX w r.eB hs
 sZ:hs.length<=140737488355328
 small:∀p∈hs,p.1.size<=140737488351232/\p.2.size<=140737488351232
 sized:r.MW
 body:r.body.size<=140737488351232
 part:(Lit.int .i64 r.part).wf=true
 Wa:(Lit.int .i64 r.dt.port).wf=true
 ajn:(Lit.int .i64 r.o.port).wf=true
theorem XT{x:DataW H×List MemPlace}(h:DataW.trod enc prog W 0 (fun _=>true) true fuel 37 cs=some x) :
  ∃b:gC Value×List ig,(cs=b.1.cells/\oX W b.1.eB b.2/\(Lit.int .i64 b.1.part).wf=true/\(Lit.int .i64 b.1.dt.port).wf=true/\(Lit.int .i64 b.1.o.port).wf=true)/\cs.length=13/\(∀u∈cs,u.oneCell'=true) /\
   (pI prog 37 x.1->XS W b.1 b.2):=by
 obtain⟨hl,n,hf⟩:=om underlying37 h;rw[Ie]at hl;obtain⟨c0,c1,c2,c3,c4,c5,c6,c7,c8,c9,G',T5,c12,rfl⟩:=alb hl;obtain⟨y0,h0,l0⟩:=hf 0 3 0 _ rfl qe;obtain⟨y1,h1,l1⟩:=hf 1 32 1 _ rfl BP;obtain⟨y2,h2,l2⟩:=hf 2 34 4 _ rfl Ic;obtain⟨y3,h3,l3⟩:=hf 3 9 9 _ rfl jc;obtain⟨y4,h4,l4⟩:=hf 4 35 10 _ rfl Pz;obtain⟨y5,h5,l5⟩:=hf 5 4 11 _ rfl vr;obtain⟨y6,h6,l6⟩:=hf 6 9 12 _ rfl jc
 simp only[List.drop,List.take]at h0 h1 h2 h3 h4 h5 h6;obtain⟨b0,e0,w0⟩:=kQ underlying3 h0;obtain⟨o,e1,w1,s1⟩:=MX h1;obtain⟨o2,pa,qu,e2,w2,s2⟩:=XR h2;obtain⟨b3,e3,w3⟩:=fA underlying9 h3;obtain⟨v4,ps,e4,hr,hs⟩:=JK h4;obtain⟨b5,e5⟩:=nV underlying4 h5;obtain⟨b6,e6,w6⟩:=fA underlying9 h6;unfold gG.cells at e1 e2;simp only[List.cons_append,List.nil_append,fK,iW]at e0 e1 e2 e3 e4 e5 e6
 obtain⟨rfl,rfl,rfl⟩:=e1;obtain⟨rfl,rfl,rfl,rfl,rfl⟩:=e2;subst e0 e3 e4 e5 e6;refine⟨(⟨b0,o,o2,pa,qu,b3,G',b5,b6⟩,ps),⟨rfl,hr,w0,w1,w2⟩,rfl,?_,fun hL=>?_⟩
 ·intro u hu;obtain⟨a,c,ev⟩:=hr.form;simp only[bC,cA,dY]at hu;rcases hu with rfl|rfl|rfl|rfl|rfl|rfl|rfl|rfl|rfl|rfl|rfl|rfl|rfl<;>first|rfl|(rw[ev];rfl)
 ·have hk:reachBytes=140737488351232:=rfl;obtain⟨g1,g2⟩:=hs (l4 hL);have q2:=s2 (l2 hL);have q1:=s1 (l1 hL);exact⟨hr,by show ps.length<=_;omega,g2,⟨w3 (l3 hL),q2.2.1,q2.2.2,q2.1,q1⟩,w6 (l6 hL),w0,w1,w2⟩
