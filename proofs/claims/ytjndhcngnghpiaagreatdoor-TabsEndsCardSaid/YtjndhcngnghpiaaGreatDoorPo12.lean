/- Lemmas for the law's walk. -/
import Derived.Test.YtjndhcngnghpiaaGreatDoorPo11
set_option maxRecDepth 100000
set_option maxHeartbeats 16000000
set_option linter.unusedSimpArgs false
namespace Go.Proofs.YtjndhcngnghpiaaGreatDoor
open Go.Proofs.Tryz
open Go.RowKit
variable {s:ai} {w w' w2 W:World} {n fuel b d base k c:Nat} {v:Value} {cs:aX} {L:List Item} {r:Kd} {ps:List jh} {a:eZ} {p:jh}
theorem T_(p q:en)(w:World) :
  aC 144 #[.agg p.cells.toArray,.agg q.cells.toArray] w fun e w'=>e=.returned (.bool (p.like q))/\Fr aW w w':=by
 have heq:=J6 {p with pE:=q.pE} q;have HR:=O (show p.like q=({p with pE:=q.pE}:en).kQ q from rfl);obtain⟨W0,hW0⟩:∃W0,W0=(w.alloc (.cells p.cells.toArray 137)).alloc (.cells q.cells.toArray 137):=⟨_,rfl⟩;have oQ:Fr aW w W0:=by rw[hW0];exact((ae aW w).alloc _).alloc _
 have h0:W0.heap[w.heap.size]?=some (.cells p.cells.toArray 137 (0,0)):=by rw[hW0];exact((ae aW _).alloc _).keep (aB _ _) id
 have h1:W0.heap[w.heap.size+1]?=some (.cells q.cells.toArray 137 (0,0)):=by
  have h:=aB (w.alloc (.cells p.cells.toArray 137)) (.cells q.cells.toArray 137);rw[bM]at h;rw[hW0];exact h
 have T9:W0.cell? ⟨w.heap.size+1,11,none⟩=some (.int .i64 q.pE):=by simp only[World.cell?,h1];rfl
 have d11:W0.cell? ⟨w.heap.size,11,none⟩=some (.int .i64 p.pE):=by simp only[World.cell?,h0];rfl
 have e11:W0.frozen? ⟨w.heap.size,11,none⟩=false:=by simp[World.frozen?,h0]
 clear h0 h1 oQ;rw[hW0]at T9 d11 e11;clear hW0;have hF:Fr aW w ((w.alloc (.cells ({p with pE:=q.pE}:en).cells.toArray 137)).alloc (.cells q.cells.toArray 137)):=((ae aW w).alloc _).alloc _
 have g0:((w.alloc (.cells ({p with pE:=q.pE}:en).cells.toArray 137)).alloc (.cells q.cells.toArray 137)).heap[w.heap.size]?=some (.cells ({p with pE:=q.pE}:en).cells.toArray 137 (0,0)):=((ae aW _).alloc _).keep (aB _ _) id;have g1:((w.alloc (.cells ({p with pE:=q.pE}:en).cells.toArray 137)).alloc (.cells q.cells.toArray 137)).heap[w.heap.size+1]?=some (.cells q.cells.toArray 137 (0,0)):=by
  have h:=aB (w.alloc (.cells ({p with pE:=q.pE}:en).cells.toArray 137)) (.cells q.cells.toArray 137);rw[bM]at h;exact h
 unfold en.cells at *
 dsimp only at heq hF g0 g1;have G:=O (And.intro g0 g1);have HF:=O hF;clear g0 g1 hF;go_enter func144,ntmps144;go_wp2_with (first|((with_reducible refine dv 8 ?_);refine aJ rfl 137 (.tmp 2) rfl w.heap.size rfl _ _ (0,0) _ G.o.1 underlying137 rfl af ?_)|((with_reducible refine dv 9 ?_);refine aJ rfl 137 (.tmp 3) rfl (w.heap.size+1) rfl _ _ (0,0) _ G.o.2 underlying137 rfl af ?_)|fail)
 go_ret;exact⟨by rw[HR.o];rfl,HF.o⟩
theorem FE(p:en)(now:Int)(w:World) :
  aC 130 #[.agg p.cells.toArray,.int .i64 now] w fun e w'=>e=.returned (.bool (p.alive now))/\Fr aW w w':=by
 have HR:=O (show p.alive now=decide (now<p.pE)from rfl);have iv:Fr aW w _:=(ae aW w).alloc (.cells p.cells.toArray 137);have h0:(w.alloc (.cells p.cells.toArray 137)).heap[w.heap.size]?=some (.cells p.cells.toArray 137 (0,0)):=aB _ _;have T9:(w.alloc (.cells p.cells.toArray 137)).cell? ⟨w.heap.size,11,none⟩=some (.int .i64 p.pE):=by simp only[World.cell?,h0];rfl
 clear h0;unfold en.cells at *
 go_enter func130,ntmps130;go_wp2;go_ret;exact⟨by rw[HR.o];rfl,iv⟩
theorem en.tG(p:en):∀u∈p.cells,u.oneCell'=true:=by
 unfold en.cells;simp[Value.oneCell']
theorem T'(p q:en)(bp:Nat)(w:World)(hp:w.heap[bp]?=some (.cells p.cells.toArray 137 (0,0))) :
  aC 143 #[.agg q.cells.toArray,.pointer (some ⟨bp,0,none⟩)] w fun e w'=>e=.returned (.bool (p.like q))/\Fr aW w w':=by
 have iv:Fr aW w (w.alloc (.cells q.cells.toArray 137)):=(ae aW w).alloc _;have g0:=iv.keep hp id;have g1:(w.alloc (.cells q.cells.toArray 137)).heap[w.heap.size]?=some (.cells q.cells.toArray 137 (0,0)):=aB _ _;have HL:=O (T_ p q (w.alloc (.cells q.cells.toArray 137)));have G:=O (And.intro g0 g1);have HF:=O iv;clear hp g0 g1 iv;unfold en.cells at *
 go_enter func143,ntmps143;go_wp2_with (first|((with_reducible refine dv 4 ?_);refine aJ rfl 137 (.tmp 1) rfl bp rfl _ _ (0,0) _ G.o.1 underlying137 rfl af ?_)|((with_reducible refine dv 5 ?_);refine aJ rfl 137 (.tmp 2) rfl w.heap.size rfl _ _ (0,0) _ G.o.2 underlying137 rfl af ?_)|fail)
 refine HL.o.mono ?_;rintro e u⟨rfl,hf⟩;go_wp2;go_ret;exact⟨rfl,HF.o.trans hf⟩
theorem Ua(q:en)(now:Int)(bn:Nat)(w:World)(hn:w.heap[bn]?=some (.cells #[.int .i64 now] 3 (0,0))) :
  aC 145 #[.agg q.cells.toArray,.pointer (some ⟨bn,0,none⟩)] w fun e w'=>e=.returned (.bool (!q.alive now))/\Fr aW w w':=by
 have iv:Fr aW w (w.alloc (.cells q.cells.toArray 137)):=(ae aW w).alloc _;have g0:=iv.keep hn id;have g1:(w.alloc (.cells q.cells.toArray 137)).heap[w.heap.size]?=some (.cells q.cells.toArray 137 (0,0)):=aB _ _;have cn:(w.alloc (.cells q.cells.toArray 137)).cell? ⟨bn,0,none⟩=some (.int .i64 now):=by simp only[World.cell?,g0];rfl
 have HL:=O (FE q now (w.alloc (.cells q.cells.toArray 137)));have G:=O g1;have HF:=O iv;clear hn g0 g1 iv;unfold en.cells at *
 go_enter func145,ntmps145;go_wp2_with (first|((with_reducible refine dv 4 ?_);refine aJ rfl 137 (.tmp 2) rfl w.heap.size rfl _ _ (0,0) _ G.o underlying137 rfl af ?_)|fail)
 refine HL.o.mono ?_;rintro e u⟨rfl,hf⟩;go_wp2;go_ret;exact⟨rfl,HF.o.trans hf⟩
def Uk(n:Nat)(er:Value)(w':World):Prop :=
 er=.iface 82 (.int .i64 n)\/∃g p,er=.iface 220 (.pointer (some ⟨g,0,none⟩))/\w'.heap[g]?=some (.cells #[.int .i64 n,.int .i64 p] 222 (0,0))
def nY(s:ai)(w:World)(e:Ending)(w':World):Prop :=
 Fr aW w w'/\match mg s.data.toList with
  | .error n=>∃er,e=.returned (.tuple #[.slice none 0 0,er])/\Uk n er w'
  | .ok l=>∃v,e=.returned (.tuple #[v,.nilIface])/\kT w.heap.size w' v l
theorem nY.bad{er:Value}(h:mg s.data.toList=.error n)(hf:Fr aW w w')(he:Uk n er w'):nY s w (.returned (.tuple #[.slice none 0 0,er])) w':=by
 refine⟨hf,?_⟩;rw[h];exact⟨er,rfl,he⟩
theorem nY.ok{l:List mZ}(h:mg s.data.toList=.ok l)(hf:Fr aW w w')(hv:kT w.heap.size w' v l):nY s w (.returned (.tuple #[v,.nilIface])) w':=by
 refine⟨hf,?_⟩;rw[h];exact⟨v,rfl,hv⟩
theorem Ke(acc:List mZ)(r:Bs):jQ (r.length+1) acc r=if(iq r).isEmpty then .ok acc else
  match oV acc.length (iq r)with
  | .error e=>.error e
  | .ok q=>jQ (q.2.length+1) (acc++[q.1]) q.2:=by
 rw[jQ];split
 ·rfl
 ·cases ho:oV acc.length (iq r)with
  |error e=>rfl
  |ok q =>
   obtain⟨x,r1⟩:=q;have h1:=BR ho;have h2:=ou r;simp only;rw[pQ r.length _ _ ab]
def agV(s:ai)(w:World)(wr:World):Prop :=
 ∃acc v j,j<=s.size/\iu wr (w.heap.size+1) w.heap.size s v/\dk wr w.heap.size s j/\kT w.heap.size wr v acc/\Fr aW w wr/\acc.length<=8/\iq (s.data.toList.drop j)=s.data.toList.drop j /\
  mg s.data.toList=jQ ((s.data.toList.drop j).length+1) acc (s.data.toList.drop j)
theorem Qr(s:ai)(w:World)(hs:s.size<=140737488351232) :
  aC 76 #[.string s] w (nY s w):=by
 by_cases h3:3000<s.size
 ·have h3':(3000:Int)<(s.size:Int):=ab;have HE:=O (show mg s.data.toList=.error 4 by unfold mg;rw[aA (by simpa using h3)]);go_enter func76,ntmps76;go_wp2;go_ret2;exact nY.bad HE.o (ae _ _) (Or.inl rfl)
 ·have h3':¬(3000:Int)<(s.size:Int):=ab;have hm:s.size<=maxLen:=fl;have HC:=O (show mg s.data.toList=jQ (s.data.toList.length+1) [] s.data.toList by unfold mg;rw[ar (by simpa using h3)]);go_enter func76,ntmps76;go_wp2_with fail
  refine(Sd s w).mono ?_;rintro e w1⟨rfl,oT⟩;have pJ:dk w1 w.heap.size s 0:=by rw[oT];exact aB _ _
  have Bp:w1.heap.size=w.heap.size+1:=by rw[oT];simp
  have dn:Fr aW w w1:=by rw[oT];exact(ae _ _).alloc _
  clear oT;obtain⟨w2,ez⟩:∃w2,w2=w1.alloc (.cells #[.pointer (some ⟨w.heap.size,0,none⟩),.string s,.slice none 0 0] 205):=⟨_,rfl⟩;have oP:iu w2 (w.heap.size+1) w.heap.size s (.slice none 0 0):=by rw[ez, <-Bp];exact aB _ _
  have yG:Fr aW w1 w2:=by rw[ez];exact(ae _ _).alloc _
  have sW:=pJ.fr yG id;have fS:=O (dn.trans yG);have oz:=O ez;clear ez dn yG pJ;go_wp2_with fail
  rw[<-oz.o];refine(CB _ _ 0 s _ w2 oP sW hm (aS _)).mono ?_;rintro e w3⟨rfl,tP,ik⟩;have Mt:cJ n9 s.data.toList 0<=s.size:=by simpa using gS (p:=n9) (l:=s.data.toList) (i:=0) (aS _)
  have HGD:=O (show s.data.toList.drop (cJ n9 s.data.toList 0)=iq s.data.toList by rw[jP,eC];rfl);generalize cJ n9 s.data.toList 0=j0 at *
  have rh:=oP.one sW ik;have ij:=O (fS.o.xz ik (ay _));have Wd:=O (show mg s.data.toList=jQ ((s.data.toList.drop j0).length+1) [] (s.data.toList.drop j0)by
   rw[HC.o,AQ _ _ (show iq s.data.toList=iq (s.data.toList.drop j0)by rw[HGD.o,rU])];exact pQ _ _ _ (by rw[HGD.o];have:=ou s.data.toList;omega))
  have HG3:=O (show iq (s.data.toList.drop j0)=s.data.toList.drop j0 by rw[HGD.o,rU]);clear ik oP sW Bp oz;go_wp2;go_loopw[] (agV s w) (fun wr=>s.size-pg wr w.heap.size)
  case atStart=>exact⟨[],_,j0,Mt,rh,tP,kT.nil _ _,ij.o,aQ,HG3.o,Wd.o⟩
  case round =>
   obtain⟨acc,v,j,hj,vh,tM,V4,cN,hl8,hgj,xc⟩:=hrel;have Eo:=O xc;have HGJ:=O hgj;clear xc hgj Wd HG3 HGD rh tP;have pM:=O tM.pos;have q0:=vh.cell0;have lT:=O (Ke acc (s.data.toList.drop j));rw[HGJ.o]at lT;go_wp2_with fail
   refine(wj _ s j wr tM).mono ?_;rintro e w5⟨rfl,n5,rfl⟩;by_cases zZ:s.size<=j
   ·have hd:decide (s.size<=j)=true:=bK zZ;have HE:=O (show mg s.data.toList=.ok acc by
     rw[Eo.o,lT.o,cL (by simpa using zZ)];rfl)
    have q2:=vh.lU;rw[hd];go_wp2;go_ret2;exact nY.ok HE.o (cN.drewN _) (V4.fr ((ae aW wr).drewN n5) (G8.none _))
   ·have hd:decide (s.size<=j)=false:=bB zZ;rw[hd];have hne:(s.data.toList.drop j).isEmpty=false:=by
     cases e:s.data.toList.drop j with
     |nil =>
      have:=aq List.length e;simp at this;omega
     |cons a l=>rfl
    rw[hne]at lT;have AZ:=vh.drewN (n:=n5);have tN:=tM.drewN n5;have hv5:=V4.fr ((ae aW wr).drewN n5) (G8.none _);have xX:=cN.drewN n5;have hbw:w.heap.size<=(wr.drewN n5).heap.size:=xX.size;generalize wr.drewN n5=w5 at *
    go_wp2_with fail
    refine(Yg w.heap.size _ _ j s acc v w5 AZ tN hv5 hbw ab hj hl8).mono ?_;intro e w6 hp;obtain⟨nw,hm6⟩:=hp;have Tm:∀k,v.ownBlock=some k->w.heap.size<=k:=by
     obtain⟨rs,h1,_⟩:=hv5;exact h1.block
    have yj:=O (show Fr aW w w6 from xX.step nw (fun k hk hh=>by
     rcases hh with hh|hh|hh
     ·omega
     ·omega
     ·have:=Tm k hh;omega))
    cases ho:oV acc.length (s.data.toList.drop j)with
    |error n =>
     rw[ho]at hm6;obtain⟨p,g,rfl,hg⟩:=hm6;have HE:=O (show mg s.data.toList=.error n by rw[Eo.o,lT.o,ho];rfl);clear ho;go_wp2;go_ret2;exact nY.bad HE.o yj.o (Or.inr ⟨g,p,rfl,hg⟩)
    |ok q =>
     obtain⟨x,z⟩:=q;rw[ho]at hm6;obtain⟨rfl,j1,v',hj1,Lr,hd6,Ig,hv6⟩:=hm6;simp only at hd6 hv6;have hole:=BR ho;have hk8:=(Ob ho).2;have hjj:j<j1:=by
      have e1:z.length=s.size-j1:=by rw[<-hd6];simp
      have e2:(s.data.toList.drop j).length=s.size-j:=aQ;omega
     have Ry:=O (show mg s.data.toList=jQ (z.length+1) (acc++[x]) z by rw[Eo.o,lT.o,ho];rfl);clear ho hole;go_wp2_with fail
     refine(CB _ _ j1 s v' w6 Ig Lr hm hj1).mono ?_;rintro e w7⟨rfl,Xp,oa⟩;have amn:cJ n9 s.data.toList j1<=s.size:=by simpa using gS (p:=n9) (l:=s.data.toList) (i:=j1) (by simpa using hj1)
     have Wa:j1<=cJ n9 s.data.toList j1:=ll;have HG7:=O (show s.data.toList.drop (cJ n9 s.data.toList j1)=iq z by rw[jP,hd6];rfl);generalize cJ n9 s.data.toList j1=j2 at *
     have RD:=Ig.one Lr oa;have hv7:=hv6.fr oa (G8.cur Lr);have Ih:=O (yj.o.xz oa (ay _));have HS7:=O (show mg s.data.toList=jQ ((s.data.toList.drop j2).length+1) (acc++[x]) (s.data.toList.drop j2)by
      rw[Ry.o,AQ _ _ (show iq z=iq (s.data.toList.drop j2)by rw[HG7.o,rU])];exact pQ _ _ _ (by rw[HG7.o];have:=ou z;omega))
     have HGG:=O (show iq (s.data.toList.drop j2)=s.data.toList.drop j2 by rw[HG7.o,rU]);go_wp2;go_roundw
     case rel=>exact⟨acc++[x],v',j2,amn,RD,Xp,hv7,Ih.o,bF,HGG.o,HS7.o⟩
     case measure=>rw[pM.o,Xp.pos];omega
open Go.ChangeShapes Go.WideShapes Go.ChangeAt Go.RowKit Go.Deep
variable {H : Type} {enc : TypeId × Value → H} {W : World}
theorem Ga:prog.cellsOf 26=5:=af
theorem Gb:prog.cellsOf 29=13:=af
theorem NL:prog.cellsOf 27=1:=af
theorem aol{α:Type}{l:List α}(h:l.length=5):∃a b c d e,l=[a,b,c,d,e]:=by
 match l,h with
 |[a,b,c,d,e],_=>exact⟨a,b,c,d,e,rfl⟩
theorem aiL{α:Type}{l:List α}(h:l.length=13):∃a b c d e f g i j k m n o,l=[a,b,c,d,e,f,g,i,j,k,m,n,o]:=by
 match l,h with
 |[a,b,c,d,e,f,g,i,j,k,m,n,o],_=>exact⟨a,b,c,d,e,f,g,i,j,k,m,n,o,rfl⟩
theorem VM{x:DataW H×List MemPlace}(h:DataW.trod enc prog W 0 (fun _=>true) true fuel 26 cs=some x) :
  ∃(o:gy) (pa qu:ai),cs=o.cells++[.string pa,.string qu]/\(Lit.int .i64 o.port).wf=true/\(oO prog 26 x.1->o.Ld/\pa.size<=reachBytes/\qu.size<=reachBytes):=by
 obtain⟨hl,n,hf⟩:=nP underlying26 h;rw[Ga]at hl;obtain⟨c0,c1,c2,c3,c4,rfl⟩:=aol hl;obtain⟨y0,h0,l0⟩:=hf 0 24 0 _ rfl AF;obtain⟨y1,h1,l1⟩:=hf 1 9 3 _ rfl iC;obtain⟨y2,h2,l2⟩:=hf 2 9 4 _ rfl iC;simp only[List.drop,List.take]at h0 h1 h2;obtain⟨o,e0,w0,s0⟩:=Lf h0;obtain⟨b1,e1,w1⟩:=fj underlying9 h1;obtain⟨b2,e2,w2⟩:=fj underlying9 h2;unfold gy.cells at e0;simp only[fA,iy]at e0 e1 e2
 obtain⟨rfl,rfl,rfl⟩:=e0;subst e1 e2;exact⟨o,b1,b2,rfl,w0,fun hL=>⟨s0 (l0 hL),w1 (l1 hL),w2 (l2 hL)⟩⟩
def aom:en:=⟨⟨false,.empty,0⟩,⟨false,.empty,0⟩,.empty,.empty,false,.empty,.empty,0⟩
instance:Inhabited en:=⟨aom⟩
def nZ(r:fX Value)(hs:List gU):Bool:=Lm hs&&decide ((r.method.size:Int)+(r.path.size:Int)+(r.query.size:Int)+(r.o.host.size:Int)+(r.cQ.host.size:Int)<=600)
theorem H9(r:fX Value)(hs:List gU)(w:World)(hr:ox w r.ef hs)(hl:hs.length<=140737488355328)(hzs:∀p∈hs,p.1.size<=140737488351232/\p.2.size<=140737488351232)(hz:r.Ld) :
  aC 27 #[.agg r.cells.toArray] w fun e w'=>e=.returned (.bool (nZ r hs))/\Fr aW w w':=by
 obtain⟨z1,z2,z3,z4,z5⟩:=hz;obtain⟨wb,jJ⟩:∃wb,wb=w.alloc (.cells r.cells.toArray 29):=⟨_,rfl⟩;have j6:Fr aW w wb:=by rw[jJ];exact(ae aW w).alloc _
 have lI:wb.heap[w.heap.size]?=some (.cells r.cells.toArray 29 (0,0)):=by rw[jJ];exact aB _ _
 obtain⟨ah,ch,gq⟩:=dN hr;rw[aj]at gq;have uj:r.cells=[.int .i64 r.part,.bool r.cQ.aG,.string r.cQ.host,.int .i64 r.cQ.port,.bool r.o.aG,.string r.o.host,.int .i64 r.o.port,.string r.path,.string r.query,.string r.method,.slice ah hs.length ch,.bool r.fF,.string r.body]:=by unfold fX.cells;rw[gq]
 have HC:=O (show∀U,Fr aW wb U->U.cell? ⟨w.heap.size,2,none⟩=some (.string r.cQ.host)/\U.cell? ⟨w.heap.size,5,none⟩=some (.string r.o.host)/\U.cell? ⟨w.heap.size,7,none⟩=some (.string r.path)/\U.cell? ⟨w.heap.size,8,none⟩=some (.string r.query)/\U.cell? ⟨w.heap.size,9,none⟩=some (.string r.method)/\U.cell? ⟨w.heap.size,10,none⟩=some (.slice ah hs.length ch)from fun U hU=>by
  have j:=hU.keep lI id;rw[uj]at j;simp[World.cell?,j])
 have rq:=O (Zu (.slice ah hs.length ch) hs wb (by rw[<-gq];exact bG hr j6) hl hzs);rw[uj]at jJ ⊢;have lZ:=O j6;have qC:=O jJ;obtain⟨k2,k5,k7,k8,k9,k10⟩:=HC.o wb (ae _ _);rw[jJ]at k10;clear hr hl hzs j6 lI gq uj jJ k2 k5 k7 k8 k9;cases D':Lm hs
 ·have HR:=O (show nZ r hs=false by unfold nZ;rw[D'];rfl);rw[D']at rq;clear D';go_enter func27,ntmps27;go_wp2_with fail
  rw[<-qC.o];refine rq.o.mono ?_;rintro e u⟨rfl,hf⟩;go_wp2;go_ret;exact⟨by rw[HR.o];rfl,lZ.o.trans hf⟩
 ·have HR:=O (show nZ r hs=decide ((r.method.size:Int)+(r.path.size:Int)+(r.query.size:Int)+(r.o.host.size:Int)+(r.cQ.host.size:Int)<=600)by unfold nZ;rw[D'];rfl);rw[D']at rq;clear D';go_enter func27,ntmps27;go_wp2_with fail
  rw[<-qC.o];refine rq.o.mono ?_;rintro e u⟨rfl,hf⟩;obtain⟨k2,k5,k7,k8,k9,_⟩:=HC.o u hf;go_wp2;go_ret;exact⟨by rw[HR.o];rfl,lZ.o.trans hf⟩
def yU(fG:Int)(cC:ai)(x:nK):iH:=⟨fG,x.aP.data.toList,x.bz.data.toList,cC.data.toList,x.cD,x.eY.data.toList,x.user.data.toList,x.target.data.toList,(nX x).data.toList,x.bI.data.toList,jl x.n⟩
theorem CX(x:nK):(nX x).size<=64:=by unfold nX;split<;>exact lp _ _
def GL(fG:Int)(cC:ai)(x:nK)(n:Int)(w:World)(e:Ending)(w':World):Prop :=
 Fr aW w w'/\(((yU fG cC x).fair=false/\∃t v,e=.returned (.tuple #[.string ⟨#[]⟩,.iface t v]))\/((fG=2\/fG=3)/\n=(x.n:Int)/\1<=x.n/\x.n<=4294967295/\(yU fG cC x).fair=true/\e=.returned (.tuple #[.string (bA (yU fG cC x).text),.nilIface])))
structure St (b d n:Nat) (w2:World) (L:List Item) (W:World):Prop where
 hb:vz b b (vG L) W
 hd:yO W d (xM L)
 qT:Below w2.heap.size w2 W
 sz:b<=W.heap.size
 cnt:L.length<=n
 len:(vG L).length<=7+10100*n
theorem PT(l:List Item)(nm v:Bs)(q:Bool){M:Nat}(h:(vG l).length<=M)(hn:nm.length<=20)(hv:v.length<=5000):(vG (l++[(nm,v,q)])).length<=M+10100:=by
 rw[<-Jy];have h1:=SZ (vG l) nm (Ad q v);have h2:=SY q v;omega
theorem St.JK{W':World}(h:St b d n w2 L W)(hf:Fr aW W W')(hB:b=w2.heap.size):St b d n w2 L W' :=
 ⟨h.hb.iY hf,hf.keep h.hd id,h.qT.trans ((om hf).mono (hB▸h.sz)),aE h.sz hf.size,h.cnt,h.len⟩
theorem St.named(h:St b d n w2 L W):∃M,M=L/\St b d n w2 M W:=⟨L,rfl,h⟩
theorem lq(b d n:Nat)(w2:World)(L:List Item)(W:World)(nm:Bs)(nb:ai)(v:ai)(q:Bool)(zO:nb=bA nm)(hB:b=w2.heap.size)(Mf:b<d)(hn:n<=20)(We:nm.length<=20)(hv:v.size<=5000)(h:St b d n w2 L W) :
  aC 106 #[.string nb,.string v,.bool q,.pointer (some ⟨d,0,none⟩),.pointer (some ⟨b,0,none⟩)] W (fun e w'=>e=.returned (.tuple #[])/\St b d (n+1) w2 (L++[(nm,v.data.toList,q)]) w'):=by
 subst zO;have hl:=h.len;have ub:v.data.toList.length<=5000:=by simpa using hv
 have:=Xv b b d (vG L) nm v.data.toList (xM L) q W h.hb h.hd ab ab ab ab ab h.sz;rw[Sv]at this;refine this.mono ?_;rintro e w'⟨rfl,h1,h2,h3⟩;rw[Jy]at h1;rw[PL]at h2;refine⟨rfl,h1,h2,h.qT.trans (hB▸h3),aE h.sz h3.size,by simp;exact h.cnt,?_⟩;exact aE (PT L nm v.data.toList q hl We ub) (by rw[Nat.mul_add];omega)
theorem pz{x:Bool}(h:yO w d x):w.cell? ⟨d,0,none⟩=some (.bool x):=by simp[World.cell?,show w.heap[d]?=_ from h]
def Al(o:gy)(proxy:Bool)(g:bJ bE):Bool:=g.o.kQ o&&g.proxy==proxy
def lV(o:gy)(proxy:Bool):List (bJ bE)->List (bJ bE)×Option (bJ bE)
 |[]=>([],none)
 |g :: l=>if Al o proxy g then(l,some g)else(g :: (lV o proxy l).1,(lV o proxy l).2)
theorem Dl{o:gy}{proxy:Bool}:∀ {l:List (bJ bE)},l.any (Al o proxy)=false->lV o proxy l=(l,none)
 |[],_=>rfl
 |g :: l,h=>by
  rw[List.any_cons,eI]at h;rw[lV,h.1,Dl h.2];rfl
theorem Fy{o:gy}{proxy:Bool}:∀ {l:List (bJ bE)} {k:Nat} {g:bJ bE},(l.take k).any (Al o proxy)=false->l[k]?=some g->Al o proxy g=true->lV o proxy l=(l.take k++l.drop (k+1),some g)
 |[],k,g,_,h,_=>by simp at h
 |a :: l,0,g,_,h,hg=>by
  simp at h;subst h;rw[lV,hg];rfl
 |a :: l,k+1,g,ha,h,hg=>by
  rw[List.take_succ_cons,List.any_cons,eI]at ha;rw[lV,ha.1,Fy ha.2 (by simpa using h) hg];rfl
theorem Fz(o:gy)(proxy:Bool):∀(l:List (bJ bE)),(lV o proxy l).1.length<=l.length
 |[]=>ay _
 |g :: l=>by
  rw[lV];split
  ·simp
  ·have:=Fz o proxy l;simp;omega
def np(base:Nat)(w:World)(b:Nat)(gv wv:Value)(gs:List (aU bE))(u:List (bJ bE)×Option (bJ bE))(e:Ending)(w':World):Prop :=
 km base w b gv wv gs u.1 w'/\match u.2 with
 |none=>e=.returned (.tuple #[.agg vR,.bool false])
 |some g=>∃r:bJ Value,e=.returned (.tuple #[.agg r.cells.toArray,.bool true])/\r.Reads (cZ base w') g/\∀u∈r.cells,u.oneCell'=true
theorem OM:(vR:bS).all (·.oneCell')=true:=bU GZ
theorem FA{base:Nat}{w5 w6:World}{b gg cap i n:Nat}{gv:Value}{gs:List (aU bE)}{ls:List (bJ bE)}{rs:List (bJ Value)}(h5:dB base w5 b gv (.slice (some ⟨gg,0,none⟩) ls.length cap) gs ls)
  (hb:lf (bJ.Reads (cZ base w5)) rs ls)(yN:OwnRows base 129 13 w6 (.slice (some ⟨gg,0,none⟩) (i+(ls.length-n)) cap) ((rs.map bJ.cells).take i++(rs.map bJ.cells).drop n))(nw:Fr (one gg) w5 w6) :
  dB base (w6.setCell ⟨b,1,none⟩ (.slice (some ⟨gg,0,none⟩) (i+(ls.length-n)) cap)) b gv (.slice (some ⟨gg,0,none⟩) (i+(ls.length-n)) cap) gs (ls.take i++ls.drop n) /\
  Fr (dh b gv (.slice (some ⟨gg,0,none⟩) ls.length cap)) w5 (w6.setCell ⟨b,1,none⟩ (.slice (some ⟨gg,0,none⟩) (i+(ls.length-n)) cap))/\w6.cell? ⟨b,1,none⟩=some (.slice (some ⟨gg,0,none⟩) ls.length cap)/\w6.frozen? ⟨b,1,none⟩=false:=by
 have kR:=h5.low;have dX:∀k,one gg k->own (.slice (some ⟨gg,0,none⟩) ls.length cap) k:=fun k hk=>by have e:k=gg:=hk;rw[e];rfl
 have mK:rL base w5 (one gg):=fun k hk hl=>h5.off k (Or.inr (Or.inr (dX k hk))) hl;have sG:=nw.keep h5.eG (fun h=>h5.wb (dX _ h));have zd:hD base w6 gv gs:=h5.bW.fr nw mK (fun k hk hg=>h5.gw hk (dX _ hg));have hm:=hb.mono (fun _ _ h=>h.mono (fun _ _ h=>h.fr nw mK));have hg6:jS base w6 (.slice (some ⟨gg,0,none⟩) (i+(ls.length-n)) cap) (ls.take i++ls.drop n):=by
  refine⟨rs.take i++rs.drop n,?_,(hm.take i).app (hm.drop n)⟩;rw[bD,List.map_take,List.map_drop];exact yN
 have SU:Fr (dh b gv (.slice (some ⟨gg,0,none⟩) ls.length cap)) w5 w6:=nw.mono (fun k _ hk=>Or.inr (Or.inr (dX k hk)));exact⟨dB.ab5 kR sG zd hg6,SU.setCell (p:=⟨b,1,none⟩) (fun _=>Or.inl rfl) _,by simp[World.cell?,sG],by simp[World.frozen?,sG]⟩
theorem km.agu{gv wv:Value}{gs:List (aU bE)}{ws:List (bJ bE)}(h:dB base w b gv wv gs ws)(hf:Fr aW w w'):km base w b gv wv gs ws w' :=
 ⟨gv,wv,h.dt hf,hf.mono (fun _ _ h=>absurd h id),fun _ hk=>Or.inl hk⟩
def agv(w:World)(ws:List (bJ bE))(o:gy)(proxy:Bool)(i:Value)(wr:World):Prop :=
 ∃k:Nat,k<=ws.length/\i=.int .i64 k/\(ws.take k).any (Al o proxy)=false/\Fr aW w wr
theorem J3(base:Nat)(w:World)(b:Nat)(gv wv:Value)(gs:List (aU bE))(ws:List (bJ bE))(o:gy)(proxy:Bool)(h:dB base w b gv wv gs ws)(D8:ws.length<34359738368) :
  aC 81 #[.pointer (some ⟨b,0,none⟩),.agg o.cells.toArray,.bool proxy] w (np base w b gv wv gs (lV o proxy ws)):=by
 unfold gy.cells;have tL:=h.lt;have kR:=h.low;obtain⟨aw,cw,El⟩:=h.waits.form;subst El;have oQ:Fr aW w _:=((ae aW w).alloc (.cells #[.bool o.aG,.string o.host,.int .i64 o.port] 24)).alloc (.cells vR 129);have b1:=aB (w.alloc (.cells #[.bool o.aG,.string o.host,.int .i64 o.port] 24)) (.cells vR 129)
 rw[show(w.alloc (.cells #[.bool o.aG,.string o.host,.int .i64 o.port] 24)).heap.size=w.heap.size+1 from aQ]at b1;have b0:=Below.heap_alloc (w.alloc (.cells #[.bool o.aG,.string o.host,.int .i64 o.port] 24)) (.cells vR 129) w.heap.size aQ;rw[aB]at b0;have h1:=h.dt oQ;have c1:=h1.c1;have XK:=O b0;have TN:=O b1;clear b0 b1;go_enter func81,ntmps81;go_wp2_with fail
 clear c1;generalize (w.alloc (.cells _ 24)).alloc _=W at *
 go_loopw[15] (agv W ws o proxy) (fun i _=>ws.length-(intOf i).toNat)
 case atStart=>exact⟨0,aS _,rfl,rfl,ae _ _⟩
 case round =>
  obtain⟨k,hk,rfl,iX,cN⟩:=hrel;have X2:=O iX;clear iX;by_cases fx:k<ws.length
  ·obtain⟨bk,c,dn,si,r,dX,hr,hcell⟩:=(h1.dt cN).waits.at fx;cases dn;unfold maxLen at si;have dL:=O (List.getElem?_eq_getElem fx);obtain⟨x,hx⟩:∃x,x=r.cells:=⟨_,rfl⟩;have lr:x.length=13:=by rw[hx];rfl
   have iM:=fun W=>run_storeCells_new (P:=prog) W 129 vR x (by rw[lr];rfl) (by rw[hx];exact dX);rw[<-hx]at hcell;have Lw:=O (Ak lr);have iv:Fr aW wr (wr.alloc (.cells x.toArray 129)):=(ae aW wr).alloc _;have rj:(wr.alloc (.cells x.toArray 129)).heap[wr.heap.size]?=some (.cells x.toArray 129 (0,0)):=aB _ _
   have mW:∀i u,r.cells[i]?=some u->(wr.alloc (.cells x.toArray 129)).cell? ⟨wr.heap.size,i,none⟩=some u:=fun i u hu=>by
    rw[<-hx]at hu;simp only[World.cell?,rj];simpa using hu
   have c0:=mW 0 _ rfl;have c1:=mW 1 _ rfl;have c2:=mW 2 _ rfl;have c3:=mW 3 _ rfl;have heq:=jW r.o o;have hO3:=O (iv.keep (cN.keep XK.o id) id);have sk:=cN.trans iv;have h3:=h1.dt sk;have rh:=O (hr.mono (fun _ _ h=>h.dt iv));have hq:=O (show Al o proxy ws[k]=(r.o.kQ o&&r.proxy==proxy)by unfold Al;rw[hr.1,hr.2.1]);have HX:=O hx;have tu:=O rj;have wP:=O dX
   have Z9:wr.heap.size<(wr.alloc (.cells x.toArray 129)).heap.size:=aQ;clear hx hr iv rj mW dX;cases e1:r.o.kQ o
   ·have J4:=O (any_take_succ dL.o X2.o (by rw[hq.o,e1];rfl));go_wp2_with (first|((with_reducible refine dv 19 ?_);refine a_ rfl 129 (.tmp 18) rfl bk (k*13) rfl x _ hcell underlying129 rfl Lw.o ?_)|((with_reducible refine dv 22 ?_);refine aJ rfl 24 (.tmp 4) rfl w.heap.size rfl _ _ (0,0) _ hO3.o underlying24 rfl af ?_)|fail)
    go_roundw
    case rel=>exact⟨k+1,ab,bf,J4.o,sk⟩
    case measure=>simp[intOf];omega
   ·cases e2:r.proxy==proxy
    ·have J4:=O (any_take_succ dL.o X2.o (by rw[hq.o,e1,e2];rfl));go_wp2_with (first|((with_reducible refine dv 19 ?_);refine a_ rfl 129 (.tmp 18) rfl bk (k*13) rfl x _ hcell underlying129 rfl Lw.o ?_)|((with_reducible refine dv 22 ?_);refine aJ rfl 24 (.tmp 4) rfl w.heap.size rfl _ _ (0,0) _ hO3.o underlying24 rfl af ?_)|fail)
     go_roundw
     case rel=>exact⟨k+1,ab,bf,J4.o,sk⟩
     case measure=>simp[intOf];omega
    ·have htk:=O (Fy X2.o dL.o (by rw[hq.o,e1,e2];rfl));obtain⟨rs,ho,hb⟩:=h3.waits;have uQ:=O (show(rs.map bJ.cells).length=ws.length by rw[aj,hb.len]);have ql:=O (Fv base bk cw k (k+1) (rs.map bJ.cells) _ (by rw[uQ.o];exact ho) ab (by rw[uQ.o];omega));rw[uQ.o,show((k+1:Nat):Int)=(k:Int)+1 from ab]at ql;have al0:bk<w.heap.size:=by obtain⟨cc,e⟩:=h.vP (k:=bk) rfl;exact bg e
     have d1:=h3.c1;have Qe:=oQ.trans sk;have b1v:=O (sk.keep TN.o id);have ar':w.heap.size+1<W.heap.size:=bg TN.o;have wO:W.heap.size<=wr.heap.size:=cN.size;have hne:∀j,dh b gv (.slice (some ⟨bk,0,none⟩) ws.length cw) j->j<w.heap.size:=fun j hj=>by
      rcases hj with hj|hj|hj
      ·omega
      ·obtain⟨cc,e⟩:=h.tF hj;exact bg e
      ·obtain⟨cc,e⟩:=h.vP hj;exact bg e
     have hxz:=O (show(vR:bS).size=x.toArray.size from TW.trans (by simp[lr]));have nz:=O (show x.toArray.all (·.oneCell')=true from bU (by rw[HX.o];exact wP.o));have hxa:=O (show(prog.info? 129).map (·.size)=some x.toArray.size by rw[ba];exact Lw.o);clear sk
     go_wp2_with (first|((with_reducible refine dv 19 ?_);refine a_ rfl 129 (.tmp 18) rfl bk (k*13) rfl x _ hcell underlying129 rfl Lw.o ?_)|((with_reducible refine dv 22 ?_);refine aJ rfl 24 (.tmp 4) rfl w.heap.size rfl _ _ (0,0) _ hO3.o underlying24 rfl af ?_)|fail)
     clear iM hcell c0 c1 c2 c3 d1 hO3 heq;generalize wr.alloc (.cells x.toArray 129)=V at *
     refine ql.o.mono ?_;rintro e w2⟨rfl,qE,dD⟩;obtain⟨h4,RQ,d2,Z7⟩:=FA h3 hb (by exact qE) dD;obtain⟨l,hl⟩:∃l,l=ws.take k++ws.drop (k+1):=⟨_,rfl⟩;have hm:k+(ws.length-(k+1))=l.length:=by rw[hl,aM,aL,bH];omega
     rw[<-hl]at h4;rw[<-hl]at htk;rw[hm]at h4 RQ ⊢;clear hl hm;have JZ:rL base V (own (.slice (some ⟨bk,0,none⟩) ws.length cw)):=ho.off (ay _) ag;have J0:rL base V (one bk):=fun j hj hl=>JZ j (by have e:j=bk:=hj;rw[e];rfl) hl;have ze:=dD.keep tu.o (fun h=>by have e:wr.heap.size=bk:=h;omega);have TQ:=dD.keep b1v.o (fun hh=>by have e:w.heap.size+1=bk:=hh;omega);have vh:=rh.o.mono (fun _ _ h=>h.fr dD J0)
     have TS:w2.heap[b]?=some (.cells #[gv,.slice (some ⟨bk,0,none⟩) ws.length cw] 118 (0,0)):=dD.keep h3.eG (fun h=>h3.wb (by have e:b=bk:=h;rw[e];rfl));have j6:Fr (one b) w2 (w2.setCell ⟨b,1,none⟩ (.slice (some ⟨bk,0,none⟩) l.length cw)):=(ae (one b) w2).setCell (p:=⟨b,1,none⟩) (fun _=>rfl) _;have TT:rL base w2 (one b):=by
      rintro j rfl _;exact⟨kR,fun cc f e=>by rw[TS]at e;cases e⟩
     have Dh:=O (j6.keep ze (fun h=>by have e:wr.heap.size=b:=h;omega));have Qf:=O (j6.keep TQ (fun h=>by have e:w.heap.size+1=b:=h;omega));have AZ:=O (vh.mono (fun _ _ h=>h.fr j6 TT));have hFw:=O (show Fr (dh b gv (.slice (some ⟨bk,0,none⟩) ws.length cw)) w (w2.setCell ⟨b,1,none⟩ (.slice (some ⟨bk,0,none⟩) l.length cw))from fL (Qe.mono (fun _ _ h=>absurd h id)) RQ (fun _ _ h=>h))
     have kP:∀j,dh b gv (.slice (some ⟨bk,0,none⟩) l.length cw) j->dh b gv (.slice (some ⟨bk,0,none⟩) ws.length cw) j:=fun j hj=>by
      rcases hj with h|h|h
      ·exact Or.inl h
      ·exact Or.inr (Or.inl h)
      ·exact Or.inr (Or.inr h)
     have H4:=O h4;clear ql qE ho hb TS j6 TT ze TQ vh RQ J0 JZ h3 Qe tu rh b1v h4;go_wp2_with (first|((with_reducible refine dv 41 ?_);refine aJ rfl 129 (.tmp 9) rfl wr.heap.size rfl _ x.toArray (0,0) _ Dh.o underlying129 rfl hxa.o ?_)|((with_reducible refine cP 129 ?_);refine aF rfl 129 (.tmp 6) (.tmp 41) rfl (w.heap.size+1) x.toArray rfl rfl _ vR Qf.o hxa.o hxz.o nz.o ?_)|fail)
     refine aR (results_cell_tmp bw _ _ (w.heap.size+1) 129 x.toArray (0,0) _ rfl (aY _ (w.heap.size+1) _ _ _ _ Qf.o) underlying129 rfl hxa.o) rfl ?_;unfold np;rw[htk.o]
     have hFr:Fr (one (w.heap.size+1)) (w2.setCell ⟨b,1,none⟩ (.slice (some ⟨bk,0,none⟩) l.length cw)) ((w2.setCell ⟨b,1,none⟩ (.slice (some ⟨bk,0,none⟩) l.length cw)).setRow (w.heap.size+1) x.toArray):=(ae (one (w.heap.size+1)) _).setRow (fun _=>rfl) _;have rA:rL base (w2.setCell ⟨b,1,none⟩ (.slice (some ⟨bk,0,none⟩) l.length cw)) (one (w.heap.size+1)):=by
      rintro j rfl _;exact⟨ab,fun cc f e=>by rw[Qf.o]at e;cases e⟩
     refine⟨⟨_,_,H4.o.fr hFr rA ?_ ?_ ?_,hFw.o.step hFr ?_,fun j hj=>Or.inl (kP j hj)⟩,r,by rw[HX.o];rfl,AZ.o.mono (fun _ _ h=>h.fr hFr rA),wP.o⟩
     ·intro hh;have e:b=w.heap.size+1:=hh;omega
     ·intro j hj hh;have e:j=w.heap.size+1:=hh;have:=hne j (kP j (Or.inr (Or.inl hj)));omega
     ·intro j hj hh;have e:j=w.heap.size+1:=hh;have:=hne j (kP j (Or.inr (Or.inr hj)));omega
     ·intro j hj hh;have e:j=w.heap.size+1:=hh;omega
  ·have hs:=O (Dl (o:=o) (proxy:=proxy) (l:=ws) (by have h:=X2.o;rw[aD ab]at h;exact h));have sJ:=O (cN.keep TN.o id);have HF:=oQ.trans cN;have hp:=km.agu h (HF.setRow (g:=w.heap.size+1) (fun h=>absurd h ab) vR);go_wp2_with (first|((with_reducible refine cP 129 ?_);refine aF rfl 129 (.tmp 6) (.tmp 43) rfl (w.heap.size+1) vR rfl rfl _ vR sJ.o af rfl OM ?_)|fail)
   refine aR (results_cell_tmp bw _ _ (w.heap.size+1) 129 vR (0,0) _ rfl (aY wr (w.heap.size+1) _ _ _ _ sJ.o) underlying129 rfl af) rfl ?_;unfold np;rw[hs.o];exact⟨hp,rfl⟩
def X4(p:ai):ai:=p.extract 0 (Lib.lastIndexByte p 47+1).toNat
theorem lastIndexByte_bounds(s:ai)(c:Int): -1<=Lib.lastIndexByte s c/\Lib.lastIndexByte s c+1<=s.size:=by
 rcases Lib.lastIndexByte_spec s c with ⟨e,_⟩|⟨i,hi,e,_⟩
 ·rw[e];omega
 ·rw[e];omega
theorem X5(p:ai)(w:World)(hs:p.size<4611686018427387904):aC 123 #[.string p] w fun e w'=>e=.returned (.string (X4 p))/\w=w':=by
 have hbd:=lastIndexByte_bounds p 47;have hd:=O (show X4 p=p.extract 0 (Lib.lastIndexByte p 47+1).toNat from rfl);go_enter func123,ntmps123;go_wp2_with fail
 refine(strings_LastIndexByte p 47 hs w).mono ?_;rintro e w1⟨rfl,rfl⟩;generalize Lib.lastIndexByte p 47=k at *
 have h1:(0:Int)<=k+1:=ab;have h2:k+1<=(p.size:Int):=ab;go_wp2;go_ret;exact⟨by rw[hd.o];rfl,rfl⟩
theorem cZ.lit(base:Nat)(w:World)(x:ai)(hk:k=w.heap.size):cZ base (w.alloc (.cells #[.string x] 9)) (.slice (some ⟨k,0,none⟩) 1 1) [x]:=by
 subst hk;exact cZ.al_ base w x
def nN(a:fY bE)(proxy:Bool)(path:ai):bE :=
 if proxy then [⟨#[47]⟩]else if a.scheme≠1/\a.dom.length=0 then [⟨#[47]⟩]else if a.scheme=1 then [X4 path]else a.dom
def qU(base:Nat)(w:World)(l:bE)(e:Ending)(w':World):Prop:=∃v,e=.returned v/\cZ base w' v l/\Fr aW w w'
theorem Qj(base:Nat)(r:fY Value)(a:fY bE)(proxy:Bool)(path:ai)(w:World)(hr:r.Reads (cZ base w) a)(hs:path.size<4611686018427387904) :
  aC 82 #[.agg r.cells.toArray,.bool proxy,.string path] w (qU base w (nN a proxy path)):=by
 obtain⟨e1,e2,e3,e4,e5,e6,e7,Am⟩:=hr;obtain⟨ad,cd,B6⟩:=Am.rd.form;have hAC:r.cells=[.int .i64 a.scheme,.string r.aP,.string r.bz,.string r.cC,.bool r.cD,.string r.eY,.bool r.du,.slice ad a.dom.length cd]:=by unfold fY.cells;rw[e1,B6]
 rw[B6]at Am;have iv:Fr aW w (w.alloc (.cells #[.int .i64 a.scheme,.string r.aP,.string r.bz,.string r.cC,.bool r.cD,.string r.eY,.bool r.du,.slice ad a.dom.length cd] 127)):=(ae aW w).alloc _;have tO:=Am.dt iv;rw[hAC];clear hAC e1 e2 e3 e4 e5 e6 e7 Am B6;cases proxy with
 |true =>
  have p9:=O (show nN a true path=[⟨#[47]⟩]from rfl);go_enter func82,ntmps82;go_wp2;go_ret;unfold qU;rw[p9.o];exact⟨_,rfl,cZ.lit base _ _ aQ,((ae aW w).alloc _).alloc _⟩
 |false =>
  by_cases h1:a.scheme=1
  ·have p9:=O (show nN a false path=[X4 path]by unfold nN;simp[h1]);go_enter func82,ntmps82;go_wp2_with fail
   refine(X5 path _ hs).mono ?_;rintro e w1⟨rfl,rfl⟩;go_wp2;go_ret;unfold qU;rw[p9.o];exact⟨_,rfl,cZ.lit base _ _ aQ,((ae aW w).alloc _).alloc _⟩
  ·by_cases h2:a.dom.length=0
   ·have p9:=O (show nN a false path=[⟨#[47]⟩]by unfold nN;rw[ar ag,aA ⟨h1,h2⟩]);have h2':((a.dom.length:Nat):Int)=0:=ab;go_enter func82,ntmps82;go_wp2;go_ret;unfold qU;rw[p9.o];exact⟨_,rfl,cZ.lit base _ _ aQ,((ae aW w).alloc _).alloc _⟩
   ·have p9:=O (show nN a false path=a.dom by unfold nN;rw[ar ag,ar (fun h=>h2 h.2),ar h1]);have sJ:(a.scheme !=1)=true:=by simp[h1]
    have kh:(((a.dom.length:Nat):Int)==0)=false:=by simp;intro h;exact h2 (by rw[h];rfl)
    have CL:=O (rz base _ _ _ tO);go_enter func82,ntmps82;go_wp2_with fail
    refine CL.o.mono ?_;rintro e w1⟨a',c',rfl,V5,hf⟩;go_wp2;go_ret;unfold qU;rw[p9.o];exact⟨_,rfl,V5,iv.trans hf⟩
theorem Ap:(prog.info? 137).map (fun i=>(i.zero,i.size,i.bytes))=some (some (.agg Ew),12,144):=af
theorem Qm{base:Nat}{w2 w4:World}{b:Nat}{v0 v:Value}{fs:List en}{p:en}{gg cap:Nat}(hl:base<=b)(hb:w2.heap[b]?=some (.cells #[v0] 121 (0,0)))(Tm:¬own v b)(kz:Fr (own v) w2 w4)
  (eU:w4.ownsRow base 137 12 (.slice (some ⟨gg,0,none⟩) (fs.length+1) cap) (fs.length+1) ((fs.map en.cells).flatten++p.cells)) :
  eM base (w4.setCell ⟨b,0,none⟩ (.slice (some ⟨gg,0,none⟩) (fs.length+1) cap)) b (.slice (some ⟨gg,0,none⟩) (fs.length+1) cap) (fs++[p]):=by
 refine oH hl (kz.keep hb Tm) ⟨?_,?_⟩
 ·intro x hx;obtain⟨q,_,rfl⟩:=cj.1 hx;exact⟨rfl,q.tG⟩
 ·rw[bD,ec,aM,aj];simpa using eU
def agB(base:Nat)(w1:World)(b:Nat)(v:Value)(ps ls:List en)(t:Value)(wr:World):Prop :=
 ∃k vk,k<=ls.length/\t=.int .i64 k/\eM base wr b vk ((ls.take k).foldl Ej ps)/\Fr (ig b v) w1 wr/\∀j,ig b vk j->ig b v j\/w1.heap.size<=j
theorem Qn{ps ls:List en}{p:en}(h:ls[k]?=some p):(ls.take (k+1)).foldl Ej ps=((ls.take k).foldl Ej ps).filter (fun q=>!p.like q)++[p]:=by
 rw[dT h,List.foldl_append];rfl
theorem qL(ps:List en)(f:en->Bool):(ps.map en.cells).filter (fun x=>!f (G0 x))=(ps.filter (fun q=>!f q)).map en.cells:=by
 rw[List.filter_map];rfl
theorem Qo{S:dz}{U w3:World}{x:aX}{t:TypeId}(hU:U.heap[n]?=some (.cells x.toArray t (0,0)))(hf:Fr S U w3)(hn:¬S n):∀j u,x[j]?=some u->w3.cell? ((⟨n,0,none⟩:Addr).add j)=some u:=by
 intro j u hj;have h:=hf.keep hU hn;have e:(Addr.add ⟨n,0,none⟩ j)=⟨n,j,none⟩:=by unfold Addr.add;split<;>simp_all
 rw[e];simp only[World.cell?,h];simpa using hj
theorem J7(base:Nat)(w:World)(b:Nat)(v:Value)(ps:List en)(lv:Value)(ls:List en)(now:Int)(h:eM base w b v ps)(hl:uG w lv ls)(rD:ls≠ []->∀k,lv.ownBlock=some k->¬ig b v k)(hlen:ps.length+ls.length<1000000) :
  aC 89 #[.pointer (some ⟨b,0,none⟩),lv,.int .i64 now] w fun e w'=>e=.returned (.tuple #[])/\Dp base w b v (tV ps ls now) w':=by
 obtain⟨al,cl,hlf⟩:=dN hl;rw[aj]at hlf;subst hlf;obtain⟨w1,oT⟩:∃w1,w1=w.alloc (.cells #[.int .i64 now] 3):=⟨_,rfl⟩;have dn:Fr aW w w1:=by rw[oT];exact(ae _ _).alloc _
 have zO:w1.heap[w.heap.size]?=some (.cells #[.int .i64 now] 3 (0,0)):=by rw[oT];exact aB _ _
 have Bp:w.heap.size<w1.heap.size:=bg zO;have h1:=h.dt dn;have hl1:uG w1 (.slice al ls.length cl) ls:=bG hl dn;have HLT:=O (show∀k,ig b v k->k<w.heap.size from fun k hk=>h.ja hk);have PQ:=O oT;have lB:=O dn;have Il:=O zO;clear hl oT dn zO h;go_enter func89,ntmps89;go_wp2_with fail
 rw[<-PQ.o];go_loopw[11] (agB base w1 b v ps ls) (fun t _=>ls.length-(intOf t).toNat)
 case atStart=>exact⟨0,v,aS _,rfl,h1,ae _ _,fun _ h=>Or.inl h⟩
 case round =>
  obtain⟨k,vk,hk,rfl,hb,cN,Eb⟩:=hrel;have kR:=hb.low;have D7:=Jj (ls.take k) ps;rw[aL]at D7;by_cases fx:k<ls.length
  ·have qp:(k:Int)<(ls.length:Int):=ab;have dL:=O (List.getElem?_eq_getElem fx);generalize ls[k]=p at dL;have lT:=O (Qn (ps:=ps) dL.o);generalize (ls.take k).foldl Ej ps=fs at hb D7 lT;have lL:eb 12 wr (.slice al ls.length cl) (ls.map en.cells):=eb.fr hl1 cN (rD (fun e=>by rw[e]at dL;have:=dL.o;simp at this));rcases lL.2 with ⟨_,_,_,e,_⟩|⟨bk,of,c,hf,g1,g2,g3,g4⟩
   ·have:ls.length=0:=by have:=aq List.length e;simpa using this
    omega
   rw[aj]at hf g1;cases hf;unfold maxLen at g2;obtain⟨x,hx⟩:∃x,x=p.cells:=⟨_,rfl⟩;have lr:x.length=12:=by rw[hx];rfl
   have dX:∀u∈x,u.oneCell'=true:=by rw[hx];exact p.tG
   have hcell:=g4 k x (by rw[List.getElem?_map,dL.o,hx];rfl);have iM:=fun W=>run_storeCells_new (P:=prog) W 137 Ew x (by rw[lr];rfl) dX;have Fo:(prog.info? 137).map (·.size)=some x.length:=Ao lr;clear g4 lL;have HX:=O hx;have Lw:=O Fo;clear hx Fo;go_wp2_with (first|((with_reducible refine dv 14 ?_);refine a_ rfl 137 (.tmp 13) rfl bk (of+k*12) rfl x _ hcell underlying137 rfl Lw.o ?_)|fail)
   have dD:Fr aW wr (wr.alloc (.cells x.toArray 137)):=(ae _ _).alloc _;have EY:(wr.alloc (.cells x.toArray 137)).heap[wr.heap.size]?=some (.cells x.toArray 137 (0,0)):=aB _ _;have ki:=cN.alloc (.cells x.toArray 137);have kh:=hb.dt dD;have hwn:¬own vk wr.heap.size:=fun hk=>by have:=hb.Dq hk;omega
   have jJ:b<wr.heap.size:=hb.lt;have Ry:=O (show wr.heap.size<(wr.alloc (.cells x.toArray 137)).heap.size from bg EY);clear iM hcell dD;generalize wr.alloc (.cells x.toArray 137)=W2 at *
   obtain⟨ak,ck,RS⟩:=kh.form;subst RS;obtain⟨J8,X8⟩:∃J8,J8=fs.filter (fun q=>!p.like q):=⟨_,rfl⟩;have za:J8.length<=fs.length:=by rw[X8];exact bR _ _
   rw[<-X8]at lT
   have HK:=O (show∀U,Fr (ig b (.slice ak fs.length ck)) W2 U->(U.cell? ⟨wr.heap.size,0,none⟩=some (.bool p.cQ.aG)/\U.cell? ⟨wr.heap.size,1,none⟩=some (.string p.cQ.host)/\U.cell? ⟨wr.heap.size,2,none⟩=some (.int .i64 p.cQ.port)/\U.cell? ⟨wr.heap.size,3,none⟩=some (.bool p.o.aG)/\U.cell? ⟨wr.heap.size,4,none⟩=some (.string p.o.host)/\U.cell? ⟨wr.heap.size,5,none⟩=some (.int .i64 p.o.port)/\U.cell? ⟨wr.heap.size,6,none⟩=some (.string p.path)/\U.cell? ⟨wr.heap.size,7,none⟩=some (.string p.query)/\U.cell? ⟨wr.heap.size,8,none⟩=some (.bool p.fF)/\U.cell? ⟨wr.heap.size,9,none⟩=some (.string p.method)/\U.cell? ⟨wr.heap.size,10,none⟩=some (.string p.head)/\U.cell? ⟨wr.heap.size,11,none⟩=some (.int .i64 p.pE))from fun U hU=>by
    have j2:=hU.keep EY (fun h=>by
     rcases h with h|h
     ·omega
     ·exact hwn h)
    rw[HX.o]at j2;have hc:∀i u,p.cells[i]?=some u->U.cell? ⟨wr.heap.size,i,none⟩=some u:=fun i u hu=>by simp only[World.cell?,j2];simpa using hu
    exact⟨hc 0 _ rfl,hc 1 _ rfl,hc 2 _ rfl,hc 3 _ rfl,hc 4 _ rfl,hc 5 _ rfl,hc 6 _ rfl,hc 7 _ rfl,hc 8 _ rfl,hc 9 _ rfl,hc 10 _ rfl,hc 11 _ rfl⟩)
   have HBC:=O (show∀U,Fr (own (.slice ak fs.length ck)) W2 U->U.cell? ⟨b,0,none⟩=some (.slice ak fs.length ck)from fun U hU=>by
    have j1:=hU.keep kh.eG kh.nb;simp[World.cell?,j1])
   have Z1:(⟨b,0,none⟩:Addr).block<W2.heap.size->ig b (.slice ak fs.length ck) (⟨b,0,none⟩:Addr).block:=fun _=>Or.inl rfl;have d0:=HBC.o W2 (ae _ _);have dA:∀o:Obj,(W2.alloc o).cell? ⟨b,0,none⟩=some (.slice ak fs.length ck):=fun o=>HBC.o _ ((ae _ _).alloc o);have agD:=O (show∀U,Fr (own (.slice ak fs.length ck)) W2 U->U.frozen? ⟨b,0,none⟩=false from fun U hU=>by
    have j1:=hU.keep kh.eG kh.nb;simp[World.frozen?,j1])
   have fy:=O (show∀U,Fr aW W2 U->aC 141 #[.slice ak fs.length ck,.func (.func 143) #[] #[.pointer (some ⟨wr.heap.size,0,none⟩)]] U fun e w'=>∃a c,e=.returned (.slice a J8.length c)/\OwnRows base 137 12 w' (.slice a J8.length c) (J8.map en.cells)/\Fr (own (.slice ak fs.length ck)) U w'/\own (.slice a J8.length c)=own (.slice ak fs.length ck)from fun U hU=>by
    have hd:=pG base 143 #[.pointer (some ⟨wr.heap.size,0,none⟩)] (fun y=>p.like (G0 y)) (.slice ak fs.length ck) (fs.map en.cells) U call143 (fun y hy u hu=>by
     obtain⟨q,_,rfl⟩:=cj.1 hy;have hpu:=hu.keep (hU.keep EY id) hwn;rw[HX.o]at hpu;exact T' p q wr.heap.size u hpu) (kh.rows.fr hU (fun _ _ h=>h))
    rw[qL,aj, <-X8]at hd;exact hd)
   clear X8;obtain⟨i0,ri,oZ,kI,kS⟩:=info_parts Ap;have hnW:¬own (.slice ak fs.length ck) W2.heap.size:=fun hk=>by have:=kh.Dq hk;omega
   have amb:base<=W2.heap.size:=by have:=Ry.o;omega
   have P0:=HK.o W2 (ae _ _);obtain⟨x0,x1,x2,x3,x4,x5,x6,x7,x8,x9,XX,XY⟩:=P0;go_region_law (first
     |((with_reducible refine mG ⟨some 21,_,_,_,_,_⟩ ?_)
       refine wB rfl 141 _ (by go_simp) (fy.o _ (by repeat(first|exact ae _ _|apply az|apply bq))) ?_
       intro e w3 ql
       obtain⟨a3,c3,rfl,fk,ik,Im⟩:=ql
       refine⟨_,rfl,?_⟩
       have ij:Fr (own (.slice ak fs.length ck)) W2 w3:=fL (S:=own (.slice ak fs.length ck)) (by repeat(first|exact ae _ _|apply az|apply bq)) ik (fun _ _ h=>h)
       have agE:Fr (ig b (.slice ak fs.length ck)) W2 w3:=ij.mono (fun _ _ h=>Or.inr h)
       have Ub:w3.ownsRow base 137 12 (.slice a3 J8.length c3) J8.length (J8.map en.cells).flatten:=by
         have h:=fk.2
         rw[aj]at h
         exact h
       have GG:=HK.o w3 agE
       have sN:base<=w3.heap.size:=by have:=ij.size;omega)
     |((with_reducible refine mG ⟨some 24,_,_,_,_,_⟩ ?_)
       (first
         |refine step_append_lies _ bw _ _ _ bw base 137 i0 _ 12 144 underlying119 ri oZ kI kS rfl ab (.slice a3 J8.length c3) J8.length _ bw (by repeat(first|exact Ub|apply World.ownsRow.alloc|apply World.ownsRow.drew)) ⟨w3.heap.size,0,none⟩ 1 1 p.cells bw bw (kB w3 p.cells _) p.tG ab fl ab bF (w3.heap.size+1) aQ ?_
         |refine step_append_lies _ bw _ _ _ bw base 137 i0 _ 12 144 underlying119 ri oZ kI kS rfl ab (.slice a3 J8.length c3) J8.length _ bw (by repeat(first|exact Ub|apply World.ownsRow.alloc|apply World.ownsRow.drew)) ⟨W2.heap.size,0,none⟩ 1 1 p.cells bw bw (Qo (by exact aB _ _) ik hnW) p.tG ab fl ab ab (w3.heap.size) aQ ?_)
       intro gg cap w4 eU jk dL JY
       have jH:Fr (own (.slice ak fs.length ck)) W2 w4:=fg (by repeat(first|exact ij|apply az|apply bq)) jk (fun k hk _=>by rw[<-Im];exact hk)
       have agF:Fr (ig b (.slice ak fs.length ck)) W2 w4:=jH.mono (fun _ _ h=>Or.inr h)
       have k4:=HBC.o w4 jH
       have e4:=agD.o w4 jH))
   all_goals
    have h5:=Qm (v:=.slice ak fs.length ck) kR kh.eG kh.nb jH eU;rw[<-lT.o]at h5;have hF5:Fr (ig b v) w1 (w4.setCell ⟨b,0,none⟩ (.slice (some ⟨gg,0,none⟩) (J8.length+1) cap)):=ki.step (agF.setCell (p:=⟨b,0,none⟩) Z1 _) (fun j hj hb=>by
     rcases Eb j hb with h|h
     ·exact h
     ·omega)
    have Sp:w1.heap.size<=w3.heap.size:=by have h1:=ki.size;have h2:=ij.size;omega
    have Qd:∀j,ig b (.slice (some ⟨gg,0,none⟩) (J8.length+1) cap) j->ig b v j\/w1.heap.size<=j:=by
     rintro j(hj|hj)
     ·exact Or.inl (Or.inl hj)
     ·have e:gg=j:=by simpa[own,Value.ownBlock]using hj
      subst e;rcases dL with dL|dL
      ·exact Eb gg (Or.inr (by rw[<-Im];exact dL))
      ·exact Or.inr ab
    have H5:=O (And.intro h5 (And.intro hF5 Qd));clear fy HK HBC agD eU jk jH agF ij agE Ub k4 e4 GG x0 x1 x2 x3 x4 x5 x6 x7 x8 x9 XX XY d0 dA Z1 h5 hF5 Qd dL Im fk ik;generalize w4.setCell ⟨b,0,none⟩ (.slice (some ⟨gg,0,none⟩) (J8.length+1) cap)=w5 at *
    go_wp2;go_roundw
    case rel=>exact⟨k+1,_,ab,bf,H5.o.1,H5.o.2.1,H5.o.2.2⟩
    case measure=>simp[intOf];omega
  ·have qp:¬(k:Int)<(ls.length:Int):=ab;have Ps:ls.take k=ls:=aD ab;rw[Ps]at hb D7;obtain⟨fs,kx⟩:∃fs,fs=ls.foldl Ej ps:=⟨_,rfl⟩;rw[<-kx]at hb D7;have Qc:¬own vk w.heap.size:=fun hk=>by
    rcases Eb _ (Or.inr hk)with h|h
    ·have:=HLT.o _ h;omega
    ·omega
   have amc:=cN.keep Il.o (fun hk=>by have:=HLT.o _ hk;omega);have hd:=pG base 145 #[.pointer (some ⟨w.heap.size,0,none⟩)] (fun y=>!(G0 y).alive now) vk (fs.map en.cells) wr call145 (fun y hy u hu=>by
    obtain⟨q,_,rfl⟩:=cj.1 hy;exact Ua q now w.heap.size u (hu.keep amc Qc)) hb.rows
   rw[qL fs (fun q=>!q.alive now),aj]at hd;obtain⟨ys,Jp⟩:∃ys,ys=fs.filter (fun q=>!!q.alive now):=⟨_,rfl⟩;rw[<-Jp]at hd;have hyl:ys.length<=fs.length:=by rw[Jp];exact bR _ _
   have gu:=O (show tV ps ls now=ys.drop (ys.length-32)by
    rw[Jp,kx];unfold tV;simp only[Bool.not_not])
   obtain⟨ak,ck,RS⟩:=hb.form;have hb':=hb;subst RS;have vN:=O hd;have c0:=hb.c0;have e0:=hb.free 0;have HB:=O hb;have uf:=O cN;have RT:=O Eb;have asg:b<w1.heap.size:=Nat.lt_trans (HLT.o b (Or.inl rfl)) Bp;clear hd Jp kx hb hb' cN Eb;go_wp2_with fail
   refine vN.o.mono ?_;rintro e w2⟨a2,c2,rfl,qE,dD,Im⟩;have J9:=dD.keep HB.o.eG HB.o.nb;have d0:w2.cell? ⟨b,0,none⟩=some (.slice ak fs.length ck):=by simp[World.cell?,J9]
   have e2:w2.frozen? ⟨b,0,none⟩=false:=by simp[World.frozen?,J9]
   have h3:=oH HB.o.low J9 qE;have Ec:Fr (ig b v) w1 (w2.setCell ⟨b,0,none⟩ (.slice a2 ys.length c2)):=(uf.o.step dD (fun j hj ho=>by
    rcases RT.o j (Or.inr ho)with h|h
    ·exact h
    ·omega)).setCell (p:=⟨b,0,none⟩) (fun _=>Or.inl rfl) _
   have agG:∀j,ig b (.slice a2 ys.length c2) j->ig b v j\/w1.heap.size<=j:=by
    rintro j(hj|hj)
    ·exact Or.inl (Or.inl hj)
    ·exact RT.o j (Or.inr (by rw[<-Im];exact hj))
   have H3:=O (And.intro h3 (And.intro Ec agG));have d3:=h3.c0;have e3:=h3.free 0;clear h3 Ec agG vN qE J9 c0 e0 dD HB uf RT Im;by_cases h32:32<ys.length
   ·have ame:(32:Int)<(ys.length:Int):=ab;have pM:(0:Int)<(ys.length:Int)-32:=ab;obtain⟨n,hn⟩:∃n:Nat,ys.length=n+32:=⟨ys.length-32,ab⟩;obtain⟨gg,rfl⟩:∃gg,a2=some ⟨gg,0,none⟩:=by
     rcases H3.o.1.rows.2.2 with ⟨hv,hq⟩|⟨g,cap,cur,hv,_⟩
     ·rw[aj]at hq;omega
     ·injection hv with h1;exact⟨g,h1⟩
    have lL:=H3.o.1.rows;have si:(ys.map en.cells).length=ys.length:=aj _;have ql:=Ql base gg c2 0 n (ys.map en.cells) (w2.setCell ⟨b,0,none⟩ (.slice (some ⟨gg,0,none⟩) ys.length c2)) (by rw[si];exact lL) ab ab;rw[si]at ql;have Uc:=O ql;have HN:=O hn;clear ql hn lL si;go_wp2_with fail
    rw[show((ys.length:Int)-32)=(n:Int)from by have:=HN.o;omega];clear d0 e2;generalize w2.setCell ⟨b,0,none⟩ (.slice (some ⟨gg,0,none⟩) ys.length c2)=w3 at *
    refine Uc.o.mono ?_;rintro e w6⟨rfl,yN,nw⟩;have dX:∀j,one gg j->own (.slice (some ⟨gg,0,none⟩) ys.length c2) j:=fun j hj=>by have e:j=gg:=hj;rw[e];rfl
    have X9:=nw.keep H3.o.1.eG (fun h=>H3.o.1.nb (dX _ h));have d6:w6.cell? ⟨b,0,none⟩=some (.slice (some ⟨gg,0,none⟩) ys.length c2):=by simp[World.cell?,X9]
    have e6:w6.frozen? ⟨b,0,none⟩=false:=by simp[World.frozen?,X9]
    rw[List.take_zero,List.nil_append, <-List.map_drop,bj]at yN;rw[bj];have h7:=oH H3.o.1.low X9 yN;have RP:Fr (ig b v) w1 (w6.setCell ⟨b,0,none⟩ (.slice (some ⟨gg,0,none⟩) (ys.length-n) c2)):=(H3.o.2.1.step nw (fun j hj ho=>by
     rcases H3.o.2.2 j (Or.inr (dX j ho))with h|h
     ·exact h
     ·omega)).setCell (p:=⟨b,0,none⟩) (fun _=>Or.inl rfl) _
    have X0:∀j,ig b (.slice (some ⟨gg,0,none⟩) (ys.length-n) c2) j->ig b v j\/w1.heap.size<=j:=by
     rintro j(hj|hj)
     ·exact Or.inl (Or.inl hj)
     ·exact H3.o.2.2 j (Or.inr hj)
    have H7:=O (And.intro h7 (And.intro RP X0));clear h7 RP X0 yN nw X9 Uc d3 e3;go_wp2;go_end0;refine⟨rfl,_,by rw[gu.o,show ys.length-32=n from by have:=HN.o;omega];exact H7.o.1,fL (lB.o.mono (fun _ _ h=>absurd h id)) H7.o.2.1 (fun _ _ h=>h),fun j hj=>?_⟩;rcases H7.o.2.2 j hj with h|h
    ·exact Or.inl h
    ·exact Or.inr ab
   ·have ame:¬(32:Int)<(ys.length:Int):=ab;have pM:¬(0:Int)<(ys.length:Int)-32:=ab;go_wp2;go_end0;refine⟨rfl,_,by rw[gu.o,show ys.length-32=0 from ab,eC];exact H3.o.1,fL (lB.o.mono (fun _ _ h=>absurd h id)) H3.o.2.1 (fun _ _ h=>h),fun j hj=>?_⟩;rcases H3.o.2.2 j hj with h|h
    ·exact Or.inl h
    ·exact Or.inr ab
structure mZ.Fit (x:mZ):Prop where
 scheme:x.scheme.length<=100000
 token:x.token.length<=100000
 rf:x.params.length<=16
 yH:∀p∈x.params,p.1.length<=99999/\p.2.length<=99999
def lz(w:World)(v:Value)(ps:List jh):Prop:=eb 2 w v (ps.map n_)
def Kf(w:World)(r:Kd)(x:mZ):Prop:=r.1=bA x.scheme/\r.2.1=bA x.token/\lz w r.2.2 x.params
def uk(w:World)(v:Value)(xs:List mZ):Prop:=∃rs:List Kd,eb 3 w v (rs.map Aq)/\lf (Kf w) rs xs
theorem Ug.rd{x:mZ}(h:Ug base w r x):Kf w r x:=⟨h.1,h.2.1,h.2.2.at⟩
theorem kT.at{xs:List mZ}(h:kT base w v xs):uk w v xs:=by
 obtain⟨rs,h1,h2⟩:=h;exact⟨rs,h1.at,h2.mono (fun _ _ h=>h.rd)⟩
theorem Kf.iY{x:mZ}(h:Kf w r x)(hf:Fr aW w w'):Kf w' r x:=⟨h.1,h.2.1,bG h.2.2 hf⟩
theorem uk.iY{xs:List mZ}(h:uk w v xs)(hf:Fr aW w w'):uk w' v xs:=by
 obtain⟨rs,h1,h2⟩:=h;exact⟨rs,h1.iY hf,h2.mono (fun _ _ h=>h.iY hf)⟩
theorem uk.form{xs:List mZ}(h:uk w v xs):∃a c,v=.slice a xs.length c:=by
 obtain⟨rs,h1,h2⟩:=h;obtain⟨a,c,e⟩:=h1.form;exact⟨a,c,by rw[e,aj,h2.len]⟩
theorem lz.form(h:lz w v ps):∃a c,v=.slice a ps.length c:=by
 obtain⟨a,c,e⟩:=dN h;exact⟨a,c,by rw[e,aj]⟩
theorem lz.cells(h:lz w (.slice a n c) ps)(hk:ps[k]?=some p) :
  ∃bk o,a=some ⟨bk,o,none⟩/\n<=c/\c<=maxLen/\w.cell? ⟨bk,o+k*2,none⟩=some (.string (bA p.1))/\w.cell? ⟨bk,o+k*2+1,none⟩=some (.string (bA p.2)):=by
 have hl:=(List.getElem?_eq_some_iff.1 hk).1;rcases h.2 with ⟨_,_,_,e,_⟩|⟨bk,o,c',hf,h1,h2,h3,h4⟩
 ·have:ps.length=0:=by have:=aq List.length e;simpa using this
  omega
 ·cases hf;have hc:=h4 k (n_ p) (by rw[List.getElem?_map,hk];rfl);exact⟨bk,o,rfl,h1,h2,hc 0 _ rfl,hc 1 _ rfl⟩
def acz(ps:List jh)(name:Bs):Value:=.tuple #[.string (bA ((j5 ps name).getD [])),.bool (j5 ps name).isSome]
theorem Ul{n:Bs}(h:ps[k]?=some p)(hp:dG p.1 n=true)(hn:(ps.take k).any (fun q=>dG q.1 n)=false):j5 ps n=some p.2:=by
 unfold j5;have:ps.find? (fun q=>dG q.1 n)=some p:=by
  induction ps generalizing k with
  |nil=>simp at h
  |cons a l ih =>
   cases k with
   |zero=>simp at h;subst h;simp[hp]
   |succ k =>
    simp only[List.take_succ_cons,List.any_cons,eI]at hn;rw[List.find?_cons,hn.1];exact ih (by simpa using h) hn.2
 rw[this];rfl
theorem Qs{n:Bs}(hn:ps.any (fun q=>dG q.1 n)=false):j5 ps n=none:=by
 unfold j5;have:ps.find? (fun q=>dG q.1 n)=none:=by
  rw[List.find?_eq_none];intro q hq;rw[eT]at hn;exact hn q hq
 rw[this];rfl
def agW(ps:List jh)(n:Bs)(w:World)(t:Value)(wr:World):Prop:=∃k:Nat,k<=ps.length/\t=.int .i64 k/\(ps.take k).any (fun q=>dG q.1 n)=false/\Fr aW w wr
def OS(ps:List jh):Prop:=ps.length<=1000000/\∀p∈ps,p.1.length<17592186044416/\p.2.length<17592186044416
theorem Yl(sc tok:ai)(pv:Value)(ps:List jh)(name:ai)(w:World)(h:lz w pv ps)(hz:OS ps)(hn:name.size<17592186044416) :
  aC 173 #[.agg #[.string sc,.string tok,pv],.string name] w fun e w'=>e=.returned (acz ps name.data.toList)/\Fr aW w w':=by
 obtain⟨av,cv,hv⟩:=h.form;subst hv;obtain⟨w1,oT⟩:∃w1,w1=w.alloc (.cells #[.string sc,.string tok,.slice av ps.length cv] 208):=⟨_,rfl⟩;have dn:Fr aW w w1:=by rw[oT];exact(ae _ _).alloc _
 have JS:lz w1 (.slice av ps.length cv) ps:=bG h dn;have PQ:=O oT;have HZ:=O hz;have Ls:=hz.1;clear oT h hz;go_enter func173,ntmps173;go_wp2_with fail
 rw[<-PQ.o];go_loopw[11] (agW ps name.data.toList w1) (fun t _=>ps.length-(intOf t).toNat)
 case atStart=>exact⟨0,aS _,rfl,rfl,ae _ _⟩
 case round =>
  obtain⟨k,hk,rfl,Ij,cN⟩:=hrel;have HN:=O Ij;clear Ij;by_cases fx:k<ps.length
  ·have qp:(k:Int)<(ps.length:Int):=ab;have dL:=O (List.getElem?_eq_getElem fx);have V8:=O (HZ.o.2 _ (bL fx));generalize ps[k]=q at dL V8;obtain⟨nm,vl⟩:=q;obtain⟨bk,of,rfl,h1,h2,c0,c1⟩:=lz.cells (bG JS cN) dL.o;unfold maxLen at h2;simp only at c0 c1;obtain⟨wb,jJ⟩:∃wb,wb=wr.alloc (.cells #[.string (bA nm),.string (bA vl)] 142):=⟨_,rfl⟩;have j6:Fr aW wr wb:=by rw[jJ];exact(ae aW wr).alloc _
   have xg:wb.heap[wr.heap.size]?=some (.cells #[.string (bA nm),.string (bA vl)] 142 (0,0)):=by rw[jJ];exact aB _ _
   have qC:=O jJ;clear jJ;go_wp2_with fail
   rw[<-qC.o];refine(ma (bA nm) name wb (by have h:=V8.o.1;exact h) hn).mono ?_;rintro e w8⟨rfl,r_⟩;rw[fK];have PG:=O ((cN.trans j6).trans r_);cases nv:dG nm name.data.toList
   ·have pN:=O (vE dL.o HN.o nv);go_wp2;go_roundw
    case rel=>exact⟨k+1,ab,bf,pN.o,PG.o⟩
    case measure=>simp[intOf];omega
   ·have HE:=O (Ul dL.o nv HN.o);have hb8:=r_.keep xg id;have c1:w8.cell? ⟨wr.heap.size,1,none⟩=some (.string (bA vl)):=by simp[World.cell?,hb8]
    go_wp2;go_ret2;refine⟨?_,dn.trans PG.o⟩;unfold acz;rw[HE.o];rfl
  ·have qp:¬(k:Int)<(ps.length:Int):=ab;have HE:=O (show j5 ps name.data.toList=none from Qs (by have h:=HN.o;rw[aD ab]at h;exact h));go_wp2;go_ret2;refine⟨?_,dn.trans cN⟩;unfold acz;rw[HE.o];rfl
theorem uk.cells{xs:List mZ}{x:mZ}(h:uk w (.slice a n c) xs)(hk:xs[k]?=some x) :
  ∃bk o pv,a=some ⟨bk,o,none⟩/\n<=c/\c<=maxLen/\w.cell? ⟨bk,o+k*3,none⟩=some (.string (bA x.scheme))/\w.cell? ⟨bk,o+k*3+1,none⟩=some (.string (bA x.token))/\w.cell? ⟨bk,o+k*3+2,none⟩=some pv/\lz w pv x.params:=by
 obtain⟨rs,hr,hb⟩:=h;have hl:=(List.getElem?_eq_some_iff.1 hk).1;have uQ:=hb.len;obtain⟨r,Bw⟩:∃r,rs[k]?=some r:=⟨_,List.getElem?_eq_getElem ab⟩;obtain⟨x',SB,e1,e2,e3⟩:=hb.get Bw;rw[hk]at SB;cases SB;rcases hr.2 with ⟨_,_,_,e,_⟩|⟨bk,o,c',hf,h1,h2,h3,h4⟩
 ·have:rs.length=0:=by have:=aq List.length e;simpa using this
  omega
 ·cases hf;have hc:=h4 k (Aq r) (by rw[List.getElem?_map,Bw];rfl);exact⟨bk,o,r.2.2,rfl,h1,h2,by rw[<-e1];exact hc 0 _ rfl,by rw[<-e2];exact hc 1 _ rfl,hc 2 _ rfl,e3⟩
variable {H : Type} {enc : TypeId × Value → H} {W : World}
structure VN (w:World) (r:fX Value) (hs:List gU):Prop where
 ef:ox w r.ef hs
 rf:hs.length<=140737488355328
 small:∀p∈hs,p.1.size<=140737488351232/\p.2.size<=140737488351232
 sized:r.Ld
 body:r.body.size<=140737488351232
 part:(Lit.int .i64 r.part).wf=true
 Up:(Lit.int .i64 r.cQ.port).wf=true
 agX:(Lit.int .i64 r.o.port).wf=true
theorem VO{x:DataW H×List MemPlace}(h:DataW.trod enc prog W 0 (fun _=>true) true fuel 29 cs=some x) :
  ∃b:fX Value×List gU,(cs=b.1.cells/\ox W b.1.ef b.2/\(Lit.int .i64 b.1.part).wf=true/\(Lit.int .i64 b.1.cQ.port).wf=true/\(Lit.int .i64 b.1.o.port).wf=true)/\cs.length=13/\(∀u∈cs,u.oneCell'=true) /\
   (oO prog 29 x.1->VN W b.1 b.2):=by
 obtain⟨hl,n,hf⟩:=nP underlying29 h;rw[Gb]at hl;obtain⟨c0,c1,c2,c3,c4,c5,c6,c7,c8,c9,G1,T9,c12,rfl⟩:=aiL hl;obtain⟨y0,h0,l0⟩:=hf 0 3 0 _ rfl pC;obtain⟨y1,h1,l1⟩:=hf 1 24 1 _ rfl AF;obtain⟨y2,h2,l2⟩:=hf 2 26 4 _ rfl Ga;obtain⟨y3,h3,l3⟩:=hf 3 9 9 _ rfl iC;obtain⟨y4,h4,l4⟩:=hf 4 27 10 _ rfl NL;obtain⟨y5,h5,l5⟩:=hf 5 4 11 _ rfl uB;obtain⟨y6,h6,l6⟩:=hf 6 9 12 _ rfl iC
 simp only[List.drop,List.take]at h0 h1 h2 h3 h4 h5 h6;obtain⟨b0,e0,w0⟩:=kq underlying3 h0;obtain⟨o,e1,w1,s1⟩:=Lf h1;obtain⟨o2,pa,qu,e2,w2,s2⟩:=VM h2;obtain⟨b3,e3,w3⟩:=fj underlying9 h3;obtain⟨v4,ps,e4,hr,hs⟩:=Hw h4;obtain⟨b5,e5⟩:=nD underlying4 h5;obtain⟨b6,e6,w6⟩:=fj underlying9 h6;unfold gy.cells at e1 e2;simp only[List.cons_append,List.nil_append,fA,iy]at e0 e1 e2 e3 e4 e5 e6
 obtain⟨rfl,rfl,rfl⟩:=e1;obtain⟨rfl,rfl,rfl,rfl,rfl⟩:=e2;subst e0 e3 e4 e5 e6;refine⟨(⟨b0,o,o2,pa,qu,b3,G1,b5,b6⟩,ps),⟨rfl,hr,w0,w1,w2⟩,rfl,?_,fun hL=>?_⟩
 ·intro u hu;obtain⟨a,c,ev⟩:=hr.form;simp only[bu,cg,dS]at hu;rcases hu with rfl|rfl|rfl|rfl|rfl|rfl|rfl|rfl|rfl|rfl|rfl|rfl|rfl<;>first|rfl|(rw[ev];rfl)
 ·have hk:reachBytes=140737488351232:=rfl;obtain⟨g1,g2⟩:=hs (l4 hL);have q2:=s2 (l2 hL);have q1:=s1 (l1 hL);exact⟨hr,by show ps.length<=_;omega,g2,⟨w3 (l3 hL),q2.2.1,q2.2.2,q2.1,q1⟩,w6 (l6 hL),w0,w1,w2⟩
