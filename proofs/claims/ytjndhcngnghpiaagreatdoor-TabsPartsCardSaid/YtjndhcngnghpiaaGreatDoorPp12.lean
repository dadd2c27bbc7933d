/- Lemmas for the law's walk. -/
import Derived.Test.YtjndhcngnghpiaaGreatDoorPp11
set_option maxRecDepth 100000
set_option maxHeartbeats 16000000
set_option linter.unusedSimpArgs false
namespace Go.Proofs.YtjndhcngnghpiaaGreatDoor
open Go.Proofs.Tryz
open Go.RowKit
variable {s:ai} {w w' w2 W:World} {n fuel b d base k c:Nat} {v:Value} {cs:a_} {L:List Item} {r:JQ} {ps:List jn} {a:fi} {p:jn}
theorem TC(p q:ep)(w:World) :
  aE 144 #[.agg p.cells.toArray,.agg q.cells.toArray] w fun e w'=>e=.returned (.bool (p.like q))/\Fr aX w w':=by
 have heq:=JH {p with pC:=q.pC} q;have HR:=O (show p.like q=({p with pC:=q.pC}:ep).kM q from rfl);obtain⟨W0,hW0⟩:∃W0,W0=(w.alloc (.cells p.cells.toArray 137)).alloc (.cells q.cells.toArray 137):=⟨_,rfl⟩;have oL:Fr aX w W0:=by rw[hW0];exact((ae aX w).alloc _).alloc _
 have h0:W0.heap[w.heap.size]?=some (.cells p.cells.toArray 137 (0,0)):=by rw[hW0];exact((ae aX _).alloc _).keep (aC _ _) id
 have h1:W0.heap[w.heap.size+1]?=some (.cells q.cells.toArray 137 (0,0)):=by
  have h:=aC (w.alloc (.cells p.cells.toArray 137)) (.cells q.cells.toArray 137);rw[bK]at h;rw[hW0];exact h
 have TB:W0.cell? ⟨w.heap.size+1,11,none⟩=some (.int .i64 q.pC):=by simp only[World.cell?,h1];rfl
 have d11:W0.cell? ⟨w.heap.size,11,none⟩=some (.int .i64 p.pC):=by simp only[World.cell?,h0];rfl
 have e11:W0.frozen? ⟨w.heap.size,11,none⟩=false:=by simp[World.frozen?,h0]
 clear h0 h1 oL;rw[hW0]at TB d11 e11;clear hW0;have hF:Fr aX w ((w.alloc (.cells ({p with pC:=q.pC}:ep).cells.toArray 137)).alloc (.cells q.cells.toArray 137)):=((ae aX w).alloc _).alloc _
 have g0:((w.alloc (.cells ({p with pC:=q.pC}:ep).cells.toArray 137)).alloc (.cells q.cells.toArray 137)).heap[w.heap.size]?=some (.cells ({p with pC:=q.pC}:ep).cells.toArray 137 (0,0)):=((ae aX _).alloc _).keep (aC _ _) id;have g1:((w.alloc (.cells ({p with pC:=q.pC}:ep).cells.toArray 137)).alloc (.cells q.cells.toArray 137)).heap[w.heap.size+1]?=some (.cells q.cells.toArray 137 (0,0)):=by
  have h:=aC (w.alloc (.cells ({p with pC:=q.pC}:ep).cells.toArray 137)) (.cells q.cells.toArray 137);rw[bK]at h;exact h
 unfold ep.cells at *
 dsimp only at heq hF g0 g1;have G:=O (And.intro g0 g1);have HF:=O hF;clear g0 g1 hF;go_enter func144,ntmps144;go_wp2_with (first|((with_reducible refine dt 8 ?_);refine aJ rfl 137 (.tmp 2) rfl w.heap.size rfl _ _ (0,0) _ G.o.1 underlying137 rfl af ?_)|((with_reducible refine dt 9 ?_);refine aJ rfl 137 (.tmp 3) rfl (w.heap.size+1) rfl _ _ (0,0) _ G.o.2 underlying137 rfl af ?_)|fail)
 go_ret;exact⟨by rw[HR.o];rfl,HF.o⟩
theorem Ff(p:ep)(now:Int)(w:World) :
  aE 130 #[.agg p.cells.toArray,.int .i64 now] w fun e w'=>e=.returned (.bool (p.alive now))/\Fr aX w w':=by
 have HR:=O (show p.alive now=decide (now<p.pC)from rfl);have ix:Fr aX w _:=(ae aX w).alloc (.cells p.cells.toArray 137);have h0:(w.alloc (.cells p.cells.toArray 137)).heap[w.heap.size]?=some (.cells p.cells.toArray 137 (0,0)):=aC _ _;have TB:(w.alloc (.cells p.cells.toArray 137)).cell? ⟨w.heap.size,11,none⟩=some (.int .i64 p.pC):=by simp only[World.cell?,h0];rfl
 clear h0;unfold ep.cells at *
 go_enter func130,ntmps130;go_wp2;go_ret;exact⟨by rw[HR.o];rfl,ix⟩
theorem ep.tC(p:ep):∀u∈p.cells,u.oneCell'=true:=by
 unfold ep.cells;simp[Value.oneCell']
theorem TD(p q:ep)(bp:Nat)(w:World)(hp:w.heap[bp]?=some (.cells p.cells.toArray 137 (0,0))) :
  aE 143 #[.agg q.cells.toArray,.pointer (some ⟨bp,0,none⟩)] w fun e w'=>e=.returned (.bool (p.like q))/\Fr aX w w':=by
 have ix:Fr aX w (w.alloc (.cells q.cells.toArray 137)):=(ae aX w).alloc _;have g0:=ix.keep hp id;have g1:(w.alloc (.cells q.cells.toArray 137)).heap[w.heap.size]?=some (.cells q.cells.toArray 137 (0,0)):=aC _ _;have HL:=O (TC p q (w.alloc (.cells q.cells.toArray 137)));have G:=O (And.intro g0 g1);have HF:=O ix;clear hp g0 g1 ix;unfold ep.cells at *
 go_enter func143,ntmps143;go_wp2_with (first|((with_reducible refine dt 4 ?_);refine aJ rfl 137 (.tmp 1) rfl bp rfl _ _ (0,0) _ G.o.1 underlying137 rfl af ?_)|((with_reducible refine dt 5 ?_);refine aJ rfl 137 (.tmp 2) rfl w.heap.size rfl _ _ (0,0) _ G.o.2 underlying137 rfl af ?_)|fail)
 refine HL.o.mono ?_;rintro e u⟨rfl,hf⟩;go_wp2;go_ret;exact⟨rfl,HF.o.trans hf⟩
theorem TE(q:ep)(now:Int)(bn:Nat)(w:World)(hn:w.heap[bn]?=some (.cells #[.int .i64 now] 3 (0,0))) :
  aE 145 #[.agg q.cells.toArray,.pointer (some ⟨bn,0,none⟩)] w fun e w'=>e=.returned (.bool (!q.alive now))/\Fr aX w w':=by
 have ix:Fr aX w (w.alloc (.cells q.cells.toArray 137)):=(ae aX w).alloc _;have g0:=ix.keep hn id;have g1:(w.alloc (.cells q.cells.toArray 137)).heap[w.heap.size]?=some (.cells q.cells.toArray 137 (0,0)):=aC _ _;have cn:(w.alloc (.cells q.cells.toArray 137)).cell? ⟨bn,0,none⟩=some (.int .i64 now):=by simp only[World.cell?,g0];rfl
 have HL:=O (Ff q now (w.alloc (.cells q.cells.toArray 137)));have G:=O g1;have HF:=O ix;clear hn g0 g1 ix;unfold ep.cells at *
 go_enter func145,ntmps145;go_wp2_with (first|((with_reducible refine dt 4 ?_);refine aJ rfl 137 (.tmp 2) rfl w.heap.size rfl _ _ (0,0) _ G.o underlying137 rfl af ?_)|fail)
 refine HL.o.mono ?_;rintro e u⟨rfl,hf⟩;go_wp2;go_ret;exact⟨rfl,HF.o.trans hf⟩
def TP(n:Nat)(er:Value)(w':World):Prop :=
 er=.iface 82 (.int .i64 n)\/∃g p,er=.iface 220 (.pointer (some ⟨g,0,none⟩))/\w'.heap[g]?=some (.cells #[.int .i64 n,.int .i64 p] 222 (0,0))
def nQ(s:ai)(w:World)(e:Ending)(w':World):Prop :=
 Fr aX w w'/\match ma s.data.toList with
  | .error n=>∃er,e=.returned (.tuple #[.slice none 0 0,er])/\TP n er w'
  | .ok l=>∃v,e=.returned (.tuple #[v,.nilIface])/\kQ w.heap.size w' v l
theorem nQ.bad{er:Value}(h:ma s.data.toList=.error n)(hf:Fr aX w w')(he:TP n er w'):nQ s w (.returned (.tuple #[.slice none 0 0,er])) w':=by
 refine⟨hf,?_⟩;rw[h];exact⟨er,rfl,he⟩
theorem nQ.ok{l:List mW}(h:ma s.data.toList=.ok l)(hf:Fr aX w w')(hv:kQ w.heap.size w' v l):nQ s w (.returned (.tuple #[v,.nilIface])) w':=by
 refine⟨hf,?_⟩;rw[h];exact⟨v,rfl,hv⟩
theorem JR(acc:List mW)(r:Bs):jV (r.length+1) acc r=if(ir r).isEmpty then .ok acc else
  match oQ acc.length (ir r)with
  | .error e=>.error e
  | .ok q=>jV (q.2.length+1) (acc++[q.1]) q.2:=by
 rw[jV];split
 ·rfl
 ·cases ho:oQ acc.length (ir r)with
  |error e=>rfl
  |ok q =>
   obtain⟨x,r1⟩:=q;have h1:=Bu ho;have h2:=om r;simp only;rw[pL r.length _ _ ab]
def agw(s:ai)(w:World)(wr:World):Prop :=
 ∃acc v j,j<=s.size/\iw wr (w.heap.size+1) w.heap.size s v/\dm wr w.heap.size s j/\kQ w.heap.size wr v acc/\Fr aX w wr/\acc.length<=8/\ir (s.data.toList.drop j)=s.data.toList.drop j /\
  ma s.data.toList=jV ((s.data.toList.drop j).length+1) acc (s.data.toList.drop j)
theorem PU(s:ai)(w:World)(hs:s.size<=140737488351232) :
  aE 76 #[.string s] w (nQ s w):=by
 by_cases h3:3000<s.size
 ·have h3':(3000:Int)<(s.size:Int):=ab;have HE:=O (show ma s.data.toList=.error 4 by unfold ma;rw[aB (by simpa using h3)]);go_enter func76,ntmps76;go_wp2;go_ret2;exact nQ.bad HE.o (ae _ _) (Or.inl rfl)
 ·have h3':¬(3000:Int)<(s.size:Int):=ab;have hm:s.size<=maxLen:=ft;have HC:=O (show ma s.data.toList=jV (s.data.toList.length+1) [] s.data.toList by unfold ma;rw[ay (by simpa using h3)]);go_enter func76,ntmps76;go_wp2_with fail
  refine(RF s w).mono ?_;rintro e w1⟨rfl,oM⟩;have oP:dm w1 w.heap.size s 0:=by rw[oM];exact aC _ _
  have A1:w1.heap.size=w.heap.size+1:=by rw[oM];simp
  have dw:Fr aX w w1:=by rw[oM];exact(ae _ _).alloc _
  clear oM;obtain⟨w2,eC⟩:∃w2,w2=w1.alloc (.cells #[.pointer (some ⟨w.heap.size,0,none⟩),.string s,.slice none 0 0] 205):=⟨_,rfl⟩;have pN:iw w2 (w.heap.size+1) w.heap.size s (.slice none 0 0):=by rw[eC, <-A1];exact aC _ _
  have yw:Fr aX w1 w2:=by rw[eC];exact(ae _ _).alloc _
  have rI:=oP.fr yw id;have fR:=O (dw.trans yw);have ow:=O eC;clear eC dw yw oP;go_wp2_with fail
  rw[<-ow.o];refine(Cf _ _ 0 s _ w2 pN rI hm (aW _)).mono ?_;rintro e w3⟨rfl,tO,iG⟩;have LV:cM nW s.data.toList 0<=s.size:=by simpa using gR (p:=nW) (l:=s.data.toList) (i:=0) (aW _)
  have HGD:=O (show s.data.toList.drop (cM nW s.data.toList 0)=ir s.data.toList by rw[jU,eF];rfl);generalize cM nW s.data.toList 0=j0 at *
  have rf:=pN.one rI iG;have il:=O (fR.o.xn iG (az _));have VU:=O (show ma s.data.toList=jV ((s.data.toList.drop j0).length+1) [] (s.data.toList.drop j0)by
   rw[HC.o,Ax _ _ (show ir s.data.toList=ir (s.data.toList.drop j0)by rw[HGD.o,rS])];exact pL _ _ _ (by rw[HGD.o];have:=om s.data.toList;omega))
  have Z4:=O (show ir (s.data.toList.drop j0)=s.data.toList.drop j0 by rw[HGD.o,rS]);clear iG pN rI A1 ow;go_wp2;go_loopw[] (agw s w) (fun wr=>s.size-o9 wr w.heap.size)
  case atStart=>exact⟨[],_,j0,LV,rf,tO,kQ.nil _ _,il.o,aS,Z4.o,VU.o⟩
  case round =>
   obtain⟨acc,v,j,hj,u0,tL,VK,cR,hl8,hgj,wU⟩:=hrel;have D1:=O wU;have HGJ:=O hgj;clear wU hgj VU Z4 HGD rf tO;have pJ:=O tL.pos;have q0:=u0.cell0;have mC:=O (JR acc (s.data.toList.drop j));rw[HGJ.o]at mC;go_wp2_with fail
   refine(vY _ s j wr tL).mono ?_;rintro e w5⟨rfl,n5,rfl⟩;by_cases zJ:s.size<=j
   ·have hd:decide (s.size<=j)=true:=bD zJ;have HE:=O (show ma s.data.toList=.ok acc by
     rw[D1.o,mC.o,cO (by simpa using zJ)];rfl)
    have q2:=u0.lQ;rw[hd];go_wp2;go_ret2;exact nQ.ok HE.o (cR.drewN _) (VK.fr ((ae aX wr).drewN n5) (Gz.none _))
   ·have hd:decide (s.size<=j)=false:=bf zJ;rw[hd];have hne:(s.data.toList.drop j).isEmpty=false:=by
     cases e:s.data.toList.drop j with
     |nil =>
      have:=ar List.length e;simp at this;omega
     |cons a l=>rfl
    rw[hne]at mC;have AF:=u0.drewN (n:=n5);have tM:=tL.drewN n5;have hv5:=VK.fr ((ae aX wr).drewN n5) (Gz.none _);have xO:=cR.drewN n5;have hbw:w.heap.size<=(wr.drewN n5).heap.size:=xO.size;generalize wr.drewN n5=w5 at *
    go_wp2_with fail
    refine(XS w.heap.size _ _ j s acc v w5 AF tM hv5 hbw ab hj hl8).mono ?_;intro e w6 hp;obtain⟨nt,hm6⟩:=hp;have SJ:∀k,v.ownBlock=some k->w.heap.size<=k:=by
     obtain⟨rs,h1,_⟩:=hv5;exact h1.block
    have x_:=O (show Fr aX w w6 from xO.step nt (fun k hk hh=>by
     rcases hh with hh|hh|hh
     ·omega
     ·omega
     ·have:=SJ k hh;omega))
    cases ho:oQ acc.length (s.data.toList.drop j)with
    |error n =>
     rw[ho]at hm6;obtain⟨p,g,rfl,hg⟩:=hm6;have HE:=O (show ma s.data.toList=.error n by rw[D1.o,mC.o,ho];rfl);clear ho;go_wp2;go_ret2;exact nQ.bad HE.o x_.o (Or.inr ⟨g,p,rfl,hg⟩)
    |ok q =>
     obtain⟨x,z⟩:=q;rw[ho]at hm6;obtain⟨rfl,j1,v',Z3,KU,hd6,Hi,hv6⟩:=hm6;simp only at hd6 hv6;have hole:=Bu ho;have hk8:=(NB ho).2;have hjj:j<j1:=by
      have e1:z.length=s.size-j1:=by rw[<-hd6];simp
      have e2:(s.data.toList.drop j).length=s.size-j:=aS;omega
     have Q4:=O (show ma s.data.toList=jV (z.length+1) (acc++[x]) z by rw[D1.o,mC.o,ho];rfl);clear ho hole;go_wp2_with fail
     refine(Cf _ _ j1 s v' w6 Hi KU hm Z3).mono ?_;rintro e w7⟨rfl,WQ,nY⟩;have alZ:cM nW s.data.toList j1<=s.size:=by simpa using gR (p:=nW) (l:=s.data.toList) (i:=j1) (by simpa using Z3)
     have VR:j1<=cM nW s.data.toList j1:=lj;have HG7:=O (show s.data.toList.drop (cM nW s.data.toList j1)=ir z by rw[jU,hd6];rfl);generalize cM nW s.data.toList j1=j2 at *
     have Q':=Hi.one KU nY;have hv7:=hv6.fr nY (Gz.cur KU);have Hj:=O (x_.o.xn nY (az _));have HS7:=O (show ma s.data.toList=jV ((s.data.toList.drop j2).length+1) (acc++[x]) (s.data.toList.drop j2)by
      rw[Q4.o,Ax _ _ (show ir z=ir (s.data.toList.drop j2)by rw[HG7.o,rS])];exact pL _ _ _ (by rw[HG7.o];have:=om z;omega))
     have Z5:=O (show ir (s.data.toList.drop j2)=s.data.toList.drop j2 by rw[HG7.o,rS]);go_wp2;go_roundw
     case rel=>exact⟨acc++[x],v',j2,alZ,Q',WQ,hv7,Hj.o,bH,Z5.o,HS7.o⟩
     case measure=>rw[pJ.o,WQ.pos];omega
open Go.ChangeShapes Go.WideShapes Go.ChangeAt Go.RowKit Go.Deep
variable {H : Type} {enc : TypeId × Value → H} {W : World}
theorem FE:prog.cellsOf 26=5:=af
theorem FF:prog.cellsOf 29=13:=af
theorem M_:prog.cellsOf 27=1:=af
theorem an2{α:Type}{l:List α}(h:l.length=5):∃a b c d e,l=[a,b,c,d,e]:=by
 match l,h with
 |[a,b,c,d,e],_=>exact⟨a,b,c,d,e,rfl⟩
theorem aio{α:Type}{l:List α}(h:l.length=13):∃a b c d e f g i j k m n o,l=[a,b,c,d,e,f,g,i,j,k,m,n,o]:=by
 match l,h with
 |[a,b,c,d,e,f,g,i,j,k,m,n,o],_=>exact⟨a,b,c,d,e,f,g,i,j,k,m,n,o,rfl⟩
theorem Vl{x:DataW H×List MemPlace}(h:DataW.trod enc prog W 0 (fun _=>true) true fuel 26 cs=some x) :
  ∃(o:gz) (pa qu:ai),cs=o.cells++[.string pa,.string qu]/\(Lit.int .i64 o.port).wf=true/\(oJ prog 26 x.1->o.KF/\pa.size<=reachBytes/\qu.size<=reachBytes):=by
 obtain⟨hl,n,hf⟩:=pz underlying26 h;rw[FE]at hl;obtain⟨c0,c1,c2,c3,c4,rfl⟩:=an2 hl;obtain⟨y0,h0,l0⟩:=hf 0 24 0 _ rfl Ao;obtain⟨y1,h1,l1⟩:=hf 1 9 3 _ rfl iD;obtain⟨y2,h2,l2⟩:=hf 2 9 4 _ rfl iD;simp only[List.drop,List.take]at h0 h1 h2;obtain⟨o,e0,w0,s0⟩:=KG h0;obtain⟨b1,e1,w1⟩:=fk underlying9 h1;obtain⟨b2,e2,w2⟩:=fk underlying9 h2;unfold gz.cells at e0;simp only[gK,jf]at e0 e1 e2
 obtain⟨rfl,rfl,rfl⟩:=e0;subst e1 e2;exact⟨o,b1,b2,rfl,w0,fun hL=>⟨s0 (l0 hL),w1 (l1 hL),w2 (l2 hL)⟩⟩
def an3:ep:=⟨⟨false,.empty,0⟩,⟨false,.empty,0⟩,.empty,.empty,false,.empty,.empty,0⟩
instance:Inhabited ep:=⟨an3⟩
def nV(r:fW Value)(hs:List gT):Bool:=KK hs&&decide ((r.method.size:Int)+(r.path.size:Int)+(r.query.size:Int)+(r.o.host.size:Int)+(r.cG.host.size:Int)<=600)
theorem Hc(r:fW Value)(hs:List gT)(w:World)(hr:ot w r.ef hs)(hl:hs.length<=140737488355328)(hzs:∀p∈hs,p.1.size<=140737488351232/\p.2.size<=140737488351232)(hz:r.KF) :
  aE 27 #[.agg r.cells.toArray] w fun e w'=>e=.returned (.bool (nV r hs))/\Fr aX w w':=by
 obtain⟨z1,z2,z3,z4,z5⟩:=hz;obtain⟨wb,jP⟩:∃wb,wb=w.alloc (.cells r.cells.toArray 29):=⟨_,rfl⟩;have kf:Fr aX w wb:=by rw[jP];exact(ae aX w).alloc _
 have l_:wb.heap[w.heap.size]?=some (.cells r.cells.toArray 29 (0,0)):=by rw[jP];exact aC _ _
 obtain⟨ah,ch,gu⟩:=dR hr;rw[aj]at gu;have ui:r.cells=[.int .i64 r.part,.bool r.cG.aD,.string r.cG.host,.int .i64 r.cG.port,.bool r.o.aD,.string r.o.host,.int .i64 r.o.port,.string r.path,.string r.query,.string r.method,.slice ah hs.length ch,.bool r.fq,.string r.body]:=by unfold fW.cells;rw[gu]
 have HC:=O (show∀U,Fr aX wb U->U.cell? ⟨w.heap.size,2,none⟩=some (.string r.cG.host)/\U.cell? ⟨w.heap.size,5,none⟩=some (.string r.o.host)/\U.cell? ⟨w.heap.size,7,none⟩=some (.string r.path)/\U.cell? ⟨w.heap.size,8,none⟩=some (.string r.query)/\U.cell? ⟨w.heap.size,9,none⟩=some (.string r.method)/\U.cell? ⟨w.heap.size,10,none⟩=some (.slice ah hs.length ch)from fun U hU=>by
  have j:=hU.keep l_ id;rw[ui]at j;simp[World.cell?,j])
 have rm:=O (Y7 (.slice ah hs.length ch) hs wb (by rw[<-gu];exact bM hr kf) hl hzs);rw[ui]at jP ⊢;have lV:=O kf;have qB:=O jP;obtain⟨k2,k5,k7,k8,k9,k10⟩:=HC.o wb (ae _ _);rw[jP]at k10;clear hr hl hzs kf l_ gu ui jP k2 k5 k7 k8 k9;cases Gi:KK hs
 ·have HR:=O (show nV r hs=false by unfold nV;rw[Gi];rfl);rw[Gi]at rm;clear Gi;go_enter func27,ntmps27;go_wp2_with fail
  rw[<-qB.o];refine rm.o.mono ?_;rintro e u⟨rfl,hf⟩;go_wp2;go_ret;exact⟨by rw[HR.o];rfl,lV.o.trans hf⟩
 ·have HR:=O (show nV r hs=decide ((r.method.size:Int)+(r.path.size:Int)+(r.query.size:Int)+(r.o.host.size:Int)+(r.cG.host.size:Int)<=600)by unfold nV;rw[Gi];rfl);rw[Gi]at rm;clear Gi;go_enter func27,ntmps27;go_wp2_with fail
  rw[<-qB.o];refine rm.o.mono ?_;rintro e u⟨rfl,hf⟩;obtain⟨k2,k5,k7,k8,k9,_⟩:=HC.o u hf;go_wp2;go_ret;exact⟨by rw[HR.o];rfl,lV.o.trans hf⟩
def yK(fI:Int)(cj:ai)(x:nD):iK:=⟨fI,x.aO.data.toList,x.bC.data.toList,cj.data.toList,x.cy,x.eZ.data.toList,x.user.data.toList,x.target.data.toList,(nO x).data.toList,x.bz.data.toList,jr x.n⟩
theorem Cz(x:nD):(nO x).size<=64:=by unfold nO;split<;>exact lo _ _
def Gg(fI:Int)(cj:ai)(x:nD)(n:Int)(w:World)(e:Ending)(w':World):Prop :=
 Fr aX w w'/\(((yK fI cj x).fair=false/\∃t v,e=.returned (.tuple #[.string ⟨#[]⟩,.iface t v]))\/((fI=2\/fI=3)/\n=(x.n:Int)/\1<=x.n/\x.n<=4294967295/\(yK fI cj x).fair=true/\e=.returned (.tuple #[.string (bA (yK fI cj x).text),.nilIface])))
structure St (b d n:Nat) (w2:World) (L:List Item) (W:World):Prop where
 hb:vr b b (vB L) W
 hd:yE W d (xD L)
 qQ:Below w2.heap.size w2 W
 sz:b<=W.heap.size
 cnt:L.length<=n
 len:(vB L).length<=7+10100*n
theorem Pg(l:List Item)(nm v:Bs)(q:Bool){M:Nat}(h:(vB l).length<=M)(hn:nm.length<=20)(hv:v.length<=5000):(vB (l++[(nm,v,q)])).length<=M+10100:=by
 rw[<-I9];have h1:=Su (vB l) nm (zP q v);have h2:=Ss q v;omega
theorem St.Jj{W':World}(h:St b d n w2 L W)(hf:Fr aX W W')(hB:b=w2.heap.size):St b d n w2 L W' :=
 ⟨h.hb.i_ hf,hf.keep h.hd id,h.qQ.trans ((oa hf).mono (hB▸h.sz)),aH h.sz hf.size,h.cnt,h.len⟩
theorem St.named(h:St b d n w2 L W):∃M,M=L/\St b d n w2 M W:=⟨L,rfl,h⟩
theorem lp(b d n:Nat)(w2:World)(L:List Item)(W:World)(nm:Bs)(nb:ai)(v:ai)(q:Bool)(zz:nb=bA nm)(hB:b=w2.heap.size)(LD:b<d)(hn:n<=20)(VV:nm.length<=20)(hv:v.size<=5000)(h:St b d n w2 L W) :
  aE 106 #[.string nb,.string v,.bool q,.pointer (some ⟨d,0,none⟩),.pointer (some ⟨b,0,none⟩)] W (fun e w'=>e=.returned (.tuple #[])/\St b d (n+1) w2 (L++[(nm,v.data.toList,q)]) w'):=by
 subst zz;have hl:=h.len;have ua:v.data.toList.length<=5000:=by simpa using hv
 have:=WW b b d (vB L) nm v.data.toList (xD L) q W h.hb h.hd ab ab ab ab ab h.sz;rw[RV]at this;refine this.mono ?_;rintro e w'⟨rfl,h1,h2,h3⟩;rw[I9]at h1;rw[O9]at h2;refine⟨rfl,h1,h2,h.qQ.trans (hB▸h3),aH h.sz h3.size,by simp;exact h.cnt,?_⟩;exact aH (Pg L nm v.data.toList q hl VV ua) (by rw[Nat.mul_add];omega)
theorem pq{x:Bool}(h:yE w d x):w.cell? ⟨d,0,none⟩=some (.bool x):=by simp[World.cell?,show w.heap[d]?=_ from h]
def zX(o:gz)(proxy:Bool)(g:bL bG):Bool:=g.o.kM o&&g.proxy==proxy
def lR(o:gz)(proxy:Bool):List (bL bG)->List (bL bG)×Option (bL bG)
 |[]=>([],none)
 |g :: l=>if zX o proxy g then(l,some g)else(g :: (lR o proxy l).1,(lR o proxy l).2)
theorem CY{o:gz}{proxy:Bool}:∀ {l:List (bL bG)},l.any (zX o proxy)=false->lR o proxy l=(l,none)
 |[],_=>rfl
 |g :: l,h=>by
  rw[List.any_cons,eA]at h;rw[lR,h.1,CY h.2];rfl
theorem E_{o:gz}{proxy:Bool}:∀ {l:List (bL bG)} {k:Nat} {g:bL bG},(l.take k).any (zX o proxy)=false->l[k]?=some g->zX o proxy g=true->lR o proxy l=(l.take k++l.drop (k+1),some g)
 |[],k,g,_,h,_=>by simp at h
 |a :: l,0,g,_,h,hg=>by
  simp at h;subst h;rw[lR,hg];rfl
 |a :: l,k+1,g,ha,h,hg=>by
  rw[List.take_succ_cons,List.any_cons,eA]at ha;rw[lR,ha.1,E_ ha.2 (by simpa using h) hg];rfl
theorem E'(o:gz)(proxy:Bool):∀(l:List (bL bG)),(lR o proxy l).1.length<=l.length
 |[]=>az _
 |g :: l=>by
  rw[lR];split
  ·simp
  ·have:=E' o proxy l;simp;omega
def ni(base:Nat)(w:World)(b:Nat)(gv wv:Value)(gs:List (aU bG))(u:List (bL bG)×Option (bL bG))(e:Ending)(w':World):Prop :=
 kp base w b gv wv gs u.1 w'/\match u.2 with
 |none=>e=.returned (.tuple #[.agg vL,.bool false])
 |some g=>∃r:bL Value,e=.returned (.tuple #[.agg r.cells.toArray,.bool true])/\r.Reads (df base w') g/\∀u∈r.cells,u.oneCell'=true
theorem N8:(vL:bW).all (·.oneCell')=true:=cE Gs
theorem Fa{base:Nat}{w5 w6:World}{b gg cap i n:Nat}{gv:Value}{gs:List (aU bG)}{ls:List (bL bG)}{rs:List (bL Value)}(h5:dC base w5 b gv (.slice (some ⟨gg,0,none⟩) ls.length cap) gs ls)
  (hb:ld (bL.Reads (df base w5)) rs ls)(yD:OwnRows base 129 13 w6 (.slice (some ⟨gg,0,none⟩) (i+(ls.length-n)) cap) ((rs.map bL.cells).take i++(rs.map bL.cells).drop n))(nt:Fr (one gg) w5 w6) :
  dC base (w6.setCell ⟨b,1,none⟩ (.slice (some ⟨gg,0,none⟩) (i+(ls.length-n)) cap)) b gv (.slice (some ⟨gg,0,none⟩) (i+(ls.length-n)) cap) gs (ls.take i++ls.drop n) /\
  Fr (dk b gv (.slice (some ⟨gg,0,none⟩) ls.length cap)) w5 (w6.setCell ⟨b,1,none⟩ (.slice (some ⟨gg,0,none⟩) (i+(ls.length-n)) cap))/\w6.cell? ⟨b,1,none⟩=some (.slice (some ⟨gg,0,none⟩) ls.length cap)/\w6.frozen? ⟨b,1,none⟩=false:=by
 have kO:=h5.low;have ec:∀k,one gg k->own (.slice (some ⟨gg,0,none⟩) ls.length cap) k:=fun k hk=>by have e:k=gg:=hk;rw[e];rfl
 have mJ:rJ base w5 (one gg):=fun k hk hl=>h5.off k (Or.inr (Or.inr (ec k hk))) hl;have su:=nt.keep h5.eK (fun h=>h5.wb (ec _ h));have yU:g_ base w6 gv gs:=h5.bZ.fr nt mJ (fun k hk hg=>h5.gw hk (ec _ hg));have hm:=hb.mono (fun _ _ h=>h.mono (fun _ _ h=>h.fr nt mJ));have hg6:jY base w6 (.slice (some ⟨gg,0,none⟩) (i+(ls.length-n)) cap) (ls.take i++ls.drop n):=by
  refine⟨rs.take i++rs.drop n,?_,(hm.take i).app (hm.drop n)⟩;rw[bI,List.map_take,List.map_drop];exact yD
 have Sn:Fr (dk b gv (.slice (some ⟨gg,0,none⟩) ls.length cap)) w5 w6:=nt.mono (fun k _ hk=>Or.inr (Or.inr (ec k hk)));exact⟨dC.abO kO su yU hg6,Sn.setCell (p:=⟨b,1,none⟩) (fun _=>Or.inl rfl) _,by simp[World.cell?,su],by simp[World.frozen?,su]⟩
theorem kp.af7{gv wv:Value}{gs:List (aU bG)}{ws:List (bL bG)}(h:dC base w b gv wv gs ws)(hf:Fr aX w w'):kp base w b gv wv gs ws w' :=
 ⟨gv,wv,h.dx hf,hf.mono (fun _ _ h=>absurd h id),fun _ hk=>Or.inl hk⟩
def af8(w:World)(ws:List (bL bG))(o:gz)(proxy:Bool)(i:Value)(wr:World):Prop :=
 ∃k:Nat,k<=ws.length/\i=.int .i64 k/\(ws.take k).any (zX o proxy)=false/\Fr aX w wr
theorem JE(base:Nat)(w:World)(b:Nat)(gv wv:Value)(gs:List (aU bG))(ws:List (bL bG))(o:gz)(proxy:Bool)(h:dC base w b gv wv gs ws)(DJ:ws.length<34359738368) :
  aE 81 #[.pointer (some ⟨b,0,none⟩),.agg o.cells.toArray,.bool proxy] w (ni base w b gv wv gs (lR o proxy ws)):=by
 unfold gz.cells;have tK:=h.lt;have kO:=h.low;obtain⟨aw,cw,DY⟩:=h.waits.form;subst DY;have oL:Fr aX w _:=((ae aX w).alloc (.cells #[.bool o.aD,.string o.host,.int .i64 o.port] 24)).alloc (.cells vL 129);have b1:=aC (w.alloc (.cells #[.bool o.aD,.string o.host,.int .i64 o.port] 24)) (.cells vL 129)
 rw[show(w.alloc (.cells #[.bool o.aD,.string o.host,.int .i64 o.port] 24)).heap.size=w.heap.size+1 from aS]at b1;have b0:=Below.heap_alloc (w.alloc (.cells #[.bool o.aD,.string o.host,.int .i64 o.port] 24)) (.cells vL 129) w.heap.size aS;rw[aC]at b0;have h1:=h.dx oL;have c1:=h1.c1;have Xk:=O b0;have Tl:=O b1;clear b0 b1;go_enter func81,ntmps81;go_wp2_with fail
 clear c1;generalize (w.alloc (.cells _ 24)).alloc _=W at *
 go_loopw[15] (af8 W ws o proxy) (fun i _=>ws.length-(intOf i).toNat)
 case atStart=>exact⟨0,aW _,rfl,rfl,ae _ _⟩
 case round =>
  obtain⟨k,hk,rfl,jd,cR⟩:=hrel;have XD:=O jd;clear jd;by_cases fE:k<ws.length
  ·obtain⟨bk,c,dw,se,r,ec,hr,hcell⟩:=(h1.dx cR).waits.at fE;cases dw;unfold maxLen at se;have dT:=O (List.getElem?_eq_getElem fE);obtain⟨x,hx⟩:∃x,x=r.cells:=⟨_,rfl⟩;have lI:x.length=13:=by rw[hx];rfl
   have iQ:=fun W=>run_storeCells_new (P:=prog) W 129 vL x (by rw[lI];rfl) (by rw[hx];exact ec);rw[<-hx]at hcell;have KX:=O (zW lI);have ix:Fr aX wr (wr.alloc (.cells x.toArray 129)):=(ae aX wr).alloc _;have rh:(wr.alloc (.cells x.toArray 129)).heap[wr.heap.size]?=some (.cells x.toArray 129 (0,0)):=aC _ _
   have mS:∀i u,r.cells[i]?=some u->(wr.alloc (.cells x.toArray 129)).cell? ⟨wr.heap.size,i,none⟩=some u:=fun i u hu=>by
    rw[<-hx]at hu;simp only[World.cell?,rh];simpa using hu
   have c0:=mS 0 _ rfl;have c1:=mS 1 _ rfl;have c2:=mS 2 _ rfl;have c3:=mS 3 _ rfl;have heq:=j8 r.o o;have hO3:=O (ix.keep (cR.keep Xk.o id) id);have si:=cR.trans ix;have h3:=h1.dx si;have rf:=O (hr.mono (fun _ _ h=>h.dx ix));have hq:=O (show zX o proxy ws[k]=(r.o.kM o&&r.proxy==proxy)by unfold zX;rw[hr.1,hr.2.1]);have HX:=O hx;have td:=O rh;have wH:=O ec
   have ZO:wr.heap.size<(wr.alloc (.cells x.toArray 129)).heap.size:=aS;clear hx hr ix rh mS ec;cases e1:r.o.kM o
   ·have JF:=O (any_take_succ dT.o XD.o (by rw[hq.o,e1];rfl));go_wp2_with (first|((with_reducible refine dt 19 ?_);refine bu rfl 129 (.tmp 18) rfl bk (k*13) rfl x _ hcell underlying129 rfl KX.o ?_)|((with_reducible refine dt 22 ?_);refine aJ rfl 24 (.tmp 4) rfl w.heap.size rfl _ _ (0,0) _ hO3.o underlying24 rfl af ?_)|fail)
    go_roundw
    case rel=>exact⟨k+1,ab,bh,JF.o,si⟩
    case measure=>simp[intOf];omega
   ·cases e2:r.proxy==proxy
    ·have JF:=O (any_take_succ dT.o XD.o (by rw[hq.o,e1,e2];rfl));go_wp2_with (first|((with_reducible refine dt 19 ?_);refine bu rfl 129 (.tmp 18) rfl bk (k*13) rfl x _ hcell underlying129 rfl KX.o ?_)|((with_reducible refine dt 22 ?_);refine aJ rfl 24 (.tmp 4) rfl w.heap.size rfl _ _ (0,0) _ hO3.o underlying24 rfl af ?_)|fail)
     go_roundw
     case rel=>exact⟨k+1,ab,bh,JF.o,si⟩
     case measure=>simp[intOf];omega
    ·have htk:=O (E_ XD.o dT.o (by rw[hq.o,e1,e2];rfl));obtain⟨rs,ho,hb⟩:=h3.waits;have uM:=O (show(rs.map bL.cells).length=ws.length by rw[aj,hb.len]);have qi:=O (E0 base bk cw k (k+1) (rs.map bL.cells) _ (by rw[uM.o];exact ho) ab (by rw[uM.o];omega));rw[uM.o,show((k+1:Nat):Int)=(k:Int)+1 from ab]at qi;have alB:bk<w.heap.size:=by obtain⟨cc,e⟩:=h.vJ (k:=bk) rfl;exact bg e
     have d1:=h3.c1;have PF:=oL.trans si;have b1v:=O (si.keep Tl.o id);have arP:w.heap.size+1<W.heap.size:=bg Tl.o;have wG:W.heap.size<=wr.heap.size:=cR.size;have hne:∀j,dk b gv (.slice (some ⟨bk,0,none⟩) ws.length cw) j->j<w.heap.size:=fun j hj=>by
      rcases hj with hj|hj|hj
      ·omega
      ·obtain⟨cc,e⟩:=h.tB hj;exact bg e
      ·obtain⟨cc,e⟩:=h.vJ hj;exact bg e
     have hxz:=O (show(vL:bW).size=x.toArray.size from Tt.trans (by simp[lI]));have ov:=O (show x.toArray.all (·.oneCell')=true from cE (by rw[HX.o];exact wH.o));have hxa:=O (show(prog.info? 129).map (·.size)=some x.toArray.size by rw[bd];exact KX.o);clear si
     go_wp2_with (first|((with_reducible refine dt 19 ?_);refine bu rfl 129 (.tmp 18) rfl bk (k*13) rfl x _ hcell underlying129 rfl KX.o ?_)|((with_reducible refine dt 22 ?_);refine aJ rfl 24 (.tmp 4) rfl w.heap.size rfl _ _ (0,0) _ hO3.o underlying24 rfl af ?_)|fail)
     clear iQ hcell c0 c1 c2 c3 d1 hO3 heq;generalize wr.alloc (.cells x.toArray 129)=V at *
     refine qi.o.mono ?_;rintro e w2⟨rfl,qD,dF⟩;obtain⟨h4,Rm,d2,ZL⟩:=Fa h3 hb (by exact qD) dF;obtain⟨l,hl⟩:∃l,l=ws.take k++ws.drop (k+1):=⟨_,rfl⟩;have hm:k+(ws.length-(k+1))=l.length:=by rw[hl,aM,aQ,bJ];omega
     rw[<-hl]at h4;rw[<-hl]at htk;rw[hm]at h4 Rm ⊢;clear hl hm;have JA:rJ base V (own (.slice (some ⟨bk,0,none⟩) ws.length cw)):=ho.off (az _) ag;have JB:rJ base V (one bk):=fun j hj hl=>JA j (by have e:j=bk:=hj;rw[e];rfl) hl;have yV:=dF.keep td.o (fun h=>by have e:wr.heap.size=bk:=h;omega);have Tn:=dF.keep b1v.o (fun hh=>by have e:w.heap.size+1=bk:=hh;omega);have u0:=rf.o.mono (fun _ _ h=>h.fr dF JB)
     have Tp:w2.heap[b]?=some (.cells #[gv,.slice (some ⟨bk,0,none⟩) ws.length cw] 118 (0,0)):=dF.keep h3.eK (fun h=>h3.wb (by have e:b=bk:=h;rw[e];rfl));have kf:Fr (one b) w2 (w2.setCell ⟨b,1,none⟩ (.slice (some ⟨bk,0,none⟩) l.length cw)):=(ae (one b) w2).setCell (p:=⟨b,1,none⟩) (fun _=>rfl) _;have Tq:rJ base w2 (one b):=by
      rintro j rfl _;exact⟨kO,fun cc f e=>by rw[Tp]at e;cases e⟩
     have CU:=O (kf.keep yV (fun h=>by have e:wr.heap.size=b:=h;omega));have PG:=O (kf.keep Tn (fun h=>by have e:w.heap.size+1=b:=h;omega));have AF:=O (u0.mono (fun _ _ h=>h.fr kf Tq));have hFw:=O (show Fr (dk b gv (.slice (some ⟨bk,0,none⟩) ws.length cw)) w (w2.setCell ⟨b,1,none⟩ (.slice (some ⟨bk,0,none⟩) l.length cw))from fN (PF.mono (fun _ _ h=>absurd h id)) Rm (fun _ _ h=>h))
     have kL:∀j,dk b gv (.slice (some ⟨bk,0,none⟩) l.length cw) j->dk b gv (.slice (some ⟨bk,0,none⟩) ws.length cw) j:=fun j hj=>by
      rcases hj with h|h|h
      ·exact Or.inl h
      ·exact Or.inr (Or.inl h)
      ·exact Or.inr (Or.inr h)
     have H4:=O h4;clear qi qD ho hb Tp kf Tq yV Tn u0 Rm JB JA h3 PF td rf b1v h4;go_wp2_with (first|((with_reducible refine dt 41 ?_);refine aJ rfl 129 (.tmp 9) rfl wr.heap.size rfl _ x.toArray (0,0) _ CU.o underlying129 rfl hxa.o ?_)|((with_reducible refine cU 129 ?_);refine aI rfl 129 (.tmp 6) (.tmp 41) rfl (w.heap.size+1) x.toArray rfl rfl _ vL PG.o hxa.o hxz.o ov.o ?_)|fail)
     refine aR (results_cell_tmp bB _ _ (w.heap.size+1) 129 x.toArray (0,0) _ rfl (aY _ (w.heap.size+1) _ _ _ _ PG.o) underlying129 rfl hxa.o) rfl ?_;unfold ni;rw[htk.o]
     have hFr:Fr (one (w.heap.size+1)) (w2.setCell ⟨b,1,none⟩ (.slice (some ⟨bk,0,none⟩) l.length cw)) ((w2.setCell ⟨b,1,none⟩ (.slice (some ⟨bk,0,none⟩) l.length cw)).setRow (w.heap.size+1) x.toArray):=(ae (one (w.heap.size+1)) _).setRow (fun _=>rfl) _;have ru:rJ base (w2.setCell ⟨b,1,none⟩ (.slice (some ⟨bk,0,none⟩) l.length cw)) (one (w.heap.size+1)):=by
      rintro j rfl _;exact⟨ab,fun cc f e=>by rw[PG.o]at e;cases e⟩
     refine⟨⟨_,_,H4.o.fr hFr ru ?_ ?_ ?_,hFw.o.step hFr ?_,fun j hj=>Or.inl (kL j hj)⟩,r,by rw[HX.o];rfl,AF.o.mono (fun _ _ h=>h.fr hFr ru),wH.o⟩
     ·intro hh;have e:b=w.heap.size+1:=hh;omega
     ·intro j hj hh;have e:j=w.heap.size+1:=hh;have:=hne j (kL j (Or.inr (Or.inl hj)));omega
     ·intro j hj hh;have e:j=w.heap.size+1:=hh;have:=hne j (kL j (Or.inr (Or.inr hj)));omega
     ·intro j hj hh;have e:j=w.heap.size+1:=hh;omega
  ·have hs:=O (CY (o:=o) (proxy:=proxy) (l:=ws) (by have h:=XD.o;rw[aG ab]at h;exact h));have sD:=O (cR.keep Tl.o id);have HF:=oL.trans cR;have hp:=kp.af7 h (HF.setRow (g:=w.heap.size+1) (fun h=>absurd h ab) vL);go_wp2_with (first|((with_reducible refine cU 129 ?_);refine aI rfl 129 (.tmp 6) (.tmp 43) rfl (w.heap.size+1) vL rfl rfl _ vL sD.o af rfl N8 ?_)|fail)
   refine aR (results_cell_tmp bB _ _ (w.heap.size+1) 129 vL (0,0) _ rfl (aY wr (w.heap.size+1) _ _ _ _ sD.o) underlying129 rfl af) rfl ?_;unfold ni;rw[hs.o];exact⟨hp,rfl⟩
def XF(p:ai):ai:=p.extract 0 (Lib.lastIndexByte p 47+1).toNat
theorem lastIndexByte_bounds(s:ai)(c:Int): -1<=Lib.lastIndexByte s c/\Lib.lastIndexByte s c+1<=s.size:=by
 rcases Lib.lastIndexByte_spec s c with ⟨e,_⟩|⟨i,hi,e,_⟩
 ·rw[e];omega
 ·rw[e];omega
theorem XG(p:ai)(w:World)(hs:p.size<4611686018427387904):aE 123 #[.string p] w fun e w'=>e=.returned (.string (XF p))/\w=w':=by
 have hbd:=lastIndexByte_bounds p 47;have hd:=O (show XF p=p.extract 0 (Lib.lastIndexByte p 47+1).toNat from rfl);go_enter func123,ntmps123;go_wp2_with fail
 refine(strings_LastIndexByte p 47 hs w).mono ?_;rintro e w1⟨rfl,rfl⟩;generalize Lib.lastIndexByte p 47=k at *
 have h1:(0:Int)<=k+1:=ab;have h2:k+1<=(p.size:Int):=ab;go_wp2;go_ret;exact⟨by rw[hd.o];rfl,rfl⟩
theorem df.lit(base:Nat)(w:World)(x:ai)(hk:k=w.heap.size):df base (w.alloc (.cells #[.string x] 9)) (.slice (some ⟨k,0,none⟩) 1 1) [x]:=by
 subst hk;exact df.alL base w x
def nG(a:fX bG)(proxy:Bool)(path:ai):bG :=
 if proxy then [⟨#[47]⟩]else if a.scheme≠1/\a.dom.length=0 then [⟨#[47]⟩]else if a.scheme=1 then [XF path]else a.dom
def qR(base:Nat)(w:World)(l:bG)(e:Ending)(w':World):Prop:=∃v,e=.returned v/\df base w' v l/\Fr aX w w'
theorem PK(base:Nat)(r:fX Value)(a:fX bG)(proxy:Bool)(path:ai)(w:World)(hr:r.Reads (df base w) a)(hs:path.size<4611686018427387904) :
  aE 82 #[.agg r.cells.toArray,.bool proxy,.string path] w (qR base w (nG a proxy path)):=by
 obtain⟨e1,e2,e3,e4,e5,e6,e7,zY⟩:=hr;obtain⟨ad,cd,BF⟩:=zY.rd.form;have hAC:r.cells=[.int .i64 a.scheme,.string r.aO,.string r.bC,.string r.cj,.bool r.cy,.string r.eZ,.bool r.dr,.slice ad a.dom.length cd]:=by unfold fX.cells;rw[e1,BF]
 rw[BF]at zY;have ix:Fr aX w (w.alloc (.cells #[.int .i64 a.scheme,.string r.aO,.string r.bC,.string r.cj,.bool r.cy,.string r.eZ,.bool r.dr,.slice ad a.dom.length cd] 127)):=(ae aX w).alloc _;have tN:=zY.dx ix;rw[hAC];clear hAC e1 e2 e3 e4 e5 e6 e7 zY BF;cases proxy with
 |true =>
  have pX:=O (show nG a true path=[⟨#[47]⟩]from rfl);go_enter func82,ntmps82;go_wp2;go_ret;unfold qR;rw[pX.o];exact⟨_,rfl,df.lit base _ _ aS,((ae aX w).alloc _).alloc _⟩
 |false =>
  by_cases h1:a.scheme=1
  ·have pX:=O (show nG a false path=[XF path]by unfold nG;simp[h1]);go_enter func82,ntmps82;go_wp2_with fail
   refine(XG path _ hs).mono ?_;rintro e w1⟨rfl,rfl⟩;go_wp2;go_ret;unfold qR;rw[pX.o];exact⟨_,rfl,df.lit base _ _ aS,((ae aX w).alloc _).alloc _⟩
  ·by_cases h2:a.dom.length=0
   ·have pX:=O (show nG a false path=[⟨#[47]⟩]by unfold nG;rw[ay ag,aB ⟨h1,h2⟩]);have h2':((a.dom.length:Nat):Int)=0:=ab;go_enter func82,ntmps82;go_wp2;go_ret;unfold qR;rw[pX.o];exact⟨_,rfl,df.lit base _ _ aS,((ae aX w).alloc _).alloc _⟩
   ·have pX:=O (show nG a false path=a.dom by unfold nG;rw[ay ag,ay (fun h=>h2 h.2),ay h1]);have sD:(a.scheme !=1)=true:=by simp[h1]
    have jX:(((a.dom.length:Nat):Int)==0)=false:=by simp;intro h;exact h2 (by rw[h];rfl)
    have CL:=O (rq base _ _ _ tN);go_enter func82,ntmps82;go_wp2_with fail
    refine CL.o.mono ?_;rintro e w1⟨a',c',rfl,VL,hf⟩;go_wp2;go_ret;unfold qR;rw[pX.o];exact⟨_,rfl,VL,ix.trans hf⟩
theorem z_:(prog.info? 137).map (fun i=>(i.zero,i.size,i.bytes))=some (some (.agg D8),12,144):=af
theorem PN{base:Nat}{w2 w4:World}{b:Nat}{v0 v:Value}{fs:List ep}{p:ep}{gg cap:Nat}(hl:base<=b)(hb:w2.heap[b]?=some (.cells #[v0] 121 (0,0)))(SJ:¬own v b)(kH:Fr (own v) w2 w4)
  (eV:w4.ownsRow base 137 12 (.slice (some ⟨gg,0,none⟩) (fs.length+1) cap) (fs.length+1) ((fs.map ep.cells).flatten++p.cells)) :
  eP base (w4.setCell ⟨b,0,none⟩ (.slice (some ⟨gg,0,none⟩) (fs.length+1) cap)) b (.slice (some ⟨gg,0,none⟩) (fs.length+1) cap) (fs++[p]):=by
 refine oC hl (kH.keep hb SJ) ⟨?_,?_⟩
 ·intro x hx;obtain⟨q,_,rfl⟩:=cz.1 hx;exact⟨rfl,q.tC⟩
 ·rw[bI,eh,aM,aj];simpa using eV
def agb(base:Nat)(w1:World)(b:Nat)(v:Value)(ps ls:List ep)(t:Value)(wr:World):Prop :=
 ∃k vk,k<=ls.length/\t=.int .i64 k/\eP base wr b vk ((ls.take k).foldl DW ps)/\Fr (ik b v) w1 wr/\∀j,ik b vk j->ik b v j\/w1.heap.size<=j
theorem PO{ps ls:List ep}{p:ep}(h:ls[k]?=some p):(ls.take (k+1)).foldl DW ps=((ls.take k).foldl DW ps).filter (fun q=>!p.like q)++[p]:=by
 rw[dU h,List.foldl_append];rfl
theorem qJ(ps:List ep)(f:ep->Bool):(ps.map ep.cells).filter (fun x=>!f (Gt x))=(ps.filter (fun q=>!f q)).map ep.cells:=by
 rw[List.filter_map];rfl
theorem PQ{S:dB}{U w3:World}{x:a_}{t:TypeId}(hU:U.heap[n]?=some (.cells x.toArray t (0,0)))(hf:Fr S U w3)(hn:¬S n):∀j u,x[j]?=some u->w3.cell? ((⟨n,0,none⟩:Addr).add j)=some u:=by
 intro j u hj;have h:=hf.keep hU hn;have e:(Addr.add ⟨n,0,none⟩ j)=⟨n,j,none⟩:=by unfold Addr.add;split<;>simp_all
 rw[e];simp only[World.cell?,h];simpa using hj
theorem JI(base:Nat)(w:World)(b:Nat)(v:Value)(ps:List ep)(lv:Value)(ls:List ep)(now:Int)(h:eP base w b v ps)(hl:uB w lv ls)(rA:ls≠ []->∀k,lv.ownBlock=some k->¬ik b v k)(hlen:ps.length+ls.length<1000000) :
  aE 89 #[.pointer (some ⟨b,0,none⟩),lv,.int .i64 now] w fun e w'=>e=.returned (.tuple #[])/\C4 base w b v (tU ps ls now) w':=by
 obtain⟨al,cl,hlf⟩:=dR hl;rw[aj]at hlf;subst hlf;obtain⟨w1,oM⟩:∃w1,w1=w.alloc (.cells #[.int .i64 now] 3):=⟨_,rfl⟩;have dw:Fr aX w w1:=by rw[oM];exact(ae _ _).alloc _
 have zz:w1.heap[w.heap.size]?=some (.cells #[.int .i64 now] 3 (0,0)):=by rw[oM];exact aC _ _
 have A1:w.heap.size<w1.heap.size:=bg zz;have h1:=h.dx dw;have hl1:uB w1 (.slice al ls.length cl) ls:=bM hl dw;have HLT:=O (show∀k,ik b v k->k<w.heap.size from fun k hk=>h.je hk);have Pd:=O oM;have lA:=O dw;have N_:=O zz;clear hl oM dw zz h;go_enter func89,ntmps89;go_wp2_with fail
 rw[<-Pd.o];go_loopw[11] (agb base w1 b v ps ls) (fun t _=>ls.length-(intOf t).toNat)
 case atStart=>exact⟨0,v,aW _,rfl,h1,ae _ _,fun _ h=>Or.inl h⟩
 case round =>
  obtain⟨k,vk,hk,rfl,hb,cR,DM⟩:=hrel;have kO:=hb.low;have DI:=IK (ls.take k) ps;rw[aQ]at DI;by_cases fE:k<ls.length
  ·have qm:(k:Int)<(ls.length:Int):=ab;have dT:=O (List.getElem?_eq_getElem fE);generalize ls[k]=p at dT;have mC:=O (PO (ps:=ps) dT.o);generalize (ls.take k).foldl DW ps=fs at hb DI mC;have lJ:ez 12 wr (.slice al ls.length cl) (ls.map ep.cells):=ez.fr hl1 cR (rA (fun e=>by rw[e]at dT;have:=dT.o;simp at this));rcases lJ.2 with ⟨_,_,_,e,_⟩|⟨bk,of,c,hf,g1,g2,g3,g4⟩
   ·have:ls.length=0:=by have:=ar List.length e;simpa using this
    omega
   rw[aj]at hf g1;cases hf;unfold maxLen at g2;obtain⟨x,hx⟩:∃x,x=p.cells:=⟨_,rfl⟩;have lI:x.length=12:=by rw[hx];rfl
   have ec:∀u∈x,u.oneCell'=true:=by rw[hx];exact p.tC
   have hcell:=g4 k x (by rw[List.getElem?_map,dT.o,hx];rfl);have iQ:=fun W=>run_storeCells_new (P:=prog) W 137 D8 x (by rw[lI];rfl) ec;have ET:(prog.info? 137).map (·.size)=some x.length:=zZ lI;clear g4 lJ;have HX:=O hx;have KX:=O ET;clear hx ET;go_wp2_with (first|((with_reducible refine dt 14 ?_);refine bu rfl 137 (.tmp 13) rfl bk (of+k*12) rfl x _ hcell underlying137 rfl KX.o ?_)|fail)
   have dF:Fr aX wr (wr.alloc (.cells x.toArray 137)):=(ae _ _).alloc _;have EA:(wr.alloc (.cells x.toArray 137)).heap[wr.heap.size]?=some (.cells x.toArray 137 (0,0)):=aC _ _;have km:=cR.alloc (.cells x.toArray 137);have jX:=hb.dx dF;have Z2:¬own vk wr.heap.size:=fun hk=>by have:=hb.C5 hk;omega
   have jP:b<wr.heap.size:=hb.lt;have Q4:=O (show wr.heap.size<(wr.alloc (.cells x.toArray 137)).heap.size from bg EA);clear iQ hcell dF;generalize wr.alloc (.cells x.toArray 137)=W2 at *
   obtain⟨ak,ck,Ro⟩:=jX.form;subst Ro;obtain⟨JJ,XI⟩:∃JJ,JJ=fs.filter (fun q=>!p.like q):=⟨_,rfl⟩;have yR:JJ.length<=fs.length:=by rw[XI];exact bR _ _
   rw[<-XI]at mC
   have HK:=O (show∀U,Fr (ik b (.slice ak fs.length ck)) W2 U->(U.cell? ⟨wr.heap.size,0,none⟩=some (.bool p.cG.aD)/\U.cell? ⟨wr.heap.size,1,none⟩=some (.string p.cG.host)/\U.cell? ⟨wr.heap.size,2,none⟩=some (.int .i64 p.cG.port)/\U.cell? ⟨wr.heap.size,3,none⟩=some (.bool p.o.aD)/\U.cell? ⟨wr.heap.size,4,none⟩=some (.string p.o.host)/\U.cell? ⟨wr.heap.size,5,none⟩=some (.int .i64 p.o.port)/\U.cell? ⟨wr.heap.size,6,none⟩=some (.string p.path)/\U.cell? ⟨wr.heap.size,7,none⟩=some (.string p.query)/\U.cell? ⟨wr.heap.size,8,none⟩=some (.bool p.fq)/\U.cell? ⟨wr.heap.size,9,none⟩=some (.string p.method)/\U.cell? ⟨wr.heap.size,10,none⟩=some (.string p.head)/\U.cell? ⟨wr.heap.size,11,none⟩=some (.int .i64 p.pC))from fun U hU=>by
    have j2:=hU.keep EA (fun h=>by
     rcases h with h|h
     ·omega
     ·exact Z2 h)
    rw[HX.o]at j2;have hc:∀i u,p.cells[i]?=some u->U.cell? ⟨wr.heap.size,i,none⟩=some u:=fun i u hu=>by simp only[World.cell?,j2];simpa using hu
    exact⟨hc 0 _ rfl,hc 1 _ rfl,hc 2 _ rfl,hc 3 _ rfl,hc 4 _ rfl,hc 5 _ rfl,hc 6 _ rfl,hc 7 _ rfl,hc 8 _ rfl,hc 9 _ rfl,hc 10 _ rfl,hc 11 _ rfl⟩)
   have HBC:=O (show∀U,Fr (own (.slice ak fs.length ck)) W2 U->U.cell? ⟨b,0,none⟩=some (.slice ak fs.length ck)from fun U hU=>by
    have j1:=hU.keep jX.eK jX.nb;simp[World.cell?,j1])
   have ZF:(⟨b,0,none⟩:Addr).block<W2.heap.size->ik b (.slice ak fs.length ck) (⟨b,0,none⟩:Addr).block:=fun _=>Or.inl rfl;have d0:=HBC.o W2 (ae _ _);have dA:∀o:Obj,(W2.alloc o).cell? ⟨b,0,none⟩=some (.slice ak fs.length ck):=fun o=>HBC.o _ ((ae _ _).alloc o);have agd:=O (show∀U,Fr (own (.slice ak fs.length ck)) W2 U->U.frozen? ⟨b,0,none⟩=false from fun U hU=>by
    have j1:=hU.keep jX.eK jX.nb;simp[World.frozen?,j1])
   have fF:=O (show∀U,Fr aX W2 U->aE 141 #[.slice ak fs.length ck,.func (.func 143) #[] #[.pointer (some ⟨wr.heap.size,0,none⟩)]] U fun e w'=>∃a c,e=.returned (.slice a JJ.length c)/\OwnRows base 137 12 w' (.slice a JJ.length c) (JJ.map ep.cells)/\Fr (own (.slice ak fs.length ck)) U w'/\own (.slice a JJ.length c)=own (.slice ak fs.length ck)from fun U hU=>by
    have hd:=pE base 143 #[.pointer (some ⟨wr.heap.size,0,none⟩)] (fun y=>p.like (Gt y)) (.slice ak fs.length ck) (fs.map ep.cells) U call143 (fun y hy u hu=>by
     obtain⟨q,_,rfl⟩:=cz.1 hy;have hpu:=hu.keep (hU.keep EA id) Z2;rw[HX.o]at hpu;exact TD p q wr.heap.size u hpu) (jX.rows.fr hU (fun _ _ h=>h))
    rw[qJ,aj, <-XI]at hd;exact hd)
   clear XI;obtain⟨i0,rL,pA,kP,kR⟩:=info_parts z_;have hnW:¬own (.slice ak fs.length ck) W2.heap.size:=fun hk=>by have:=jX.C5 hk;omega
   have alO:base<=W2.heap.size:=by have:=Q4.o;omega
   have P0:=HK.o W2 (ae _ _);obtain⟨x0,x1,x2,x3,x4,x5,x6,x7,x8,x9,Xy,Xz⟩:=P0;go_region_law (first
     |((with_reducible refine mF ⟨some 21,_,_,_,_,_⟩ ?_)
       refine zN rfl 141 _ (by go_simp) (fF.o _ (by repeat(first|exact ae _ _|apply aA|apply bq))) ?_
       intro e w3 qi
       obtain⟨a3,c3,rfl,fo,iG,Ho⟩:=qi
       refine⟨_,rfl,?_⟩
       have il:Fr (own (.slice ak fs.length ck)) W2 w3:=fN (S:=own (.slice ak fs.length ck)) (by repeat(first|exact ae _ _|apply aA|apply bq)) iG (fun _ _ h=>h)
       have age:Fr (ik b (.slice ak fs.length ck)) W2 w3:=il.mono (fun _ _ h=>Or.inr h)
       have TF:w3.ownsRow base 137 12 (.slice a3 JJ.length c3) JJ.length (JJ.map ep.cells).flatten:=by
         have h:=fo.2
         rw[aj]at h
         exact h
       have Gb:=HK.o w3 age
       have sJ:base<=w3.heap.size:=by have:=il.size;omega)
     |((with_reducible refine mF ⟨some 24,_,_,_,_,_⟩ ?_)
       (first
         |refine step_append_lies _ bB _ _ _ bB base 137 i0 _ 12 144 underlying119 rL pA kP kR rfl ab (.slice a3 JJ.length c3) JJ.length _ bB (by repeat(first|exact TF|apply World.ownsRow.alloc|apply World.ownsRow.drew)) ⟨w3.heap.size,0,none⟩ 1 1 p.cells bB bB (ky w3 p.cells _) p.tC ab ft ab bH (w3.heap.size+1) aS ?_
         |refine step_append_lies _ bB _ _ _ bB base 137 i0 _ 12 144 underlying119 rL pA kP kR rfl ab (.slice a3 JJ.length c3) JJ.length _ bB (by repeat(first|exact TF|apply World.ownsRow.alloc|apply World.ownsRow.drew)) ⟨W2.heap.size,0,none⟩ 1 1 p.cells bB bB (PQ (by exact aC _ _) iG hnW) p.tC ab ft ab ab (w3.heap.size) aS ?_)
       intro gg cap w4 eV jq dT Jz
       have jN:Fr (own (.slice ak fs.length ck)) W2 w4:=fg (by repeat(first|exact il|apply aA|apply bq)) jq (fun k hk _=>by rw[<-Ho];exact hk)
       have agf:Fr (ik b (.slice ak fs.length ck)) W2 w4:=jN.mono (fun _ _ h=>Or.inr h)
       have k4:=HBC.o w4 jN
       have e4:=agd.o w4 jN))
   all_goals
    have h5:=PN (v:=.slice ak fs.length ck) kO jX.eK jX.nb jN eV;rw[<-mC.o]at h5;have hF5:Fr (ik b v) w1 (w4.setCell ⟨b,0,none⟩ (.slice (some ⟨gg,0,none⟩) (JJ.length+1) cap)):=km.step (agf.setCell (p:=⟨b,0,none⟩) ZF _) (fun j hj hb=>by
     rcases DM j hb with h|h
     ·exact h
     ·omega)
    have RQ:w1.heap.size<=w3.heap.size:=by have h1:=km.size;have h2:=il.size;omega
    have PE:∀j,ik b (.slice (some ⟨gg,0,none⟩) (JJ.length+1) cap) j->ik b v j\/w1.heap.size<=j:=by
     rintro j(hj|hj)
     ·exact Or.inl (Or.inl hj)
     ·have e:gg=j:=by simpa[own,Value.ownBlock]using hj
      subst e;rcases dT with dT|dT
      ·exact DM gg (Or.inr (by rw[<-Ho];exact dT))
      ·exact Or.inr ab
    have H5:=O (And.intro h5 (And.intro hF5 PE));clear fF HK HBC agd eV jq jN agf il age TF k4 e4 Gb x0 x1 x2 x3 x4 x5 x6 x7 x8 x9 Xy Xz d0 dA ZF h5 hF5 PE dT Ho fo iG;generalize w4.setCell ⟨b,0,none⟩ (.slice (some ⟨gg,0,none⟩) (JJ.length+1) cap)=w5 at *
    go_wp2;go_roundw
    case rel=>exact⟨k+1,_,ab,bh,H5.o.1,H5.o.2.1,H5.o.2.2⟩
    case measure=>simp[intOf];omega
  ·have qm:¬(k:Int)<(ls.length:Int):=ab;have OL:ls.take k=ls:=aG ab;rw[OL]at hb DI;obtain⟨fs,kx⟩:∃fs,fs=ls.foldl DW ps:=⟨_,rfl⟩;rw[<-kx]at hb DI;have Jy:¬own vk w.heap.size:=fun hk=>by
    rcases DM _ (Or.inr hk)with h|h
    ·have:=HLT.o _ h;omega
    ·omega
   have alP:=cR.keep N_.o (fun hk=>by have:=HLT.o _ hk;omega);have hd:=pE base 145 #[.pointer (some ⟨w.heap.size,0,none⟩)] (fun y=>!(Gt y).alive now) vk (fs.map ep.cells) wr call145 (fun y hy u hu=>by
    obtain⟨q,_,rfl⟩:=cz.1 hy;exact TE q now w.heap.size u (hu.keep alP Jy)) hb.rows
   rw[qJ fs (fun q=>!q.alive now),aj]at hd;obtain⟨ys,IV⟩:∃ys,ys=fs.filter (fun q=>!!q.alive now):=⟨_,rfl⟩;rw[<-IV]at hd;have hyl:ys.length<=fs.length:=by rw[IV];exact bR _ _
   have gy:=O (show tU ps ls now=ys.drop (ys.length-32)by
    rw[IV,kx];unfold tU;simp only[Bool.not_not])
   obtain⟨ak,ck,Ro⟩:=hb.form;have hb':=hb;subst Ro;have pY:=O hd;have c0:=hb.c0;have e0:=hb.free 0;have HB:=O hb;have ue:=O cR;have Rp:=O DM;have arV:b<w1.heap.size:=Nat.lt_trans (HLT.o b (Or.inl rfl)) A1;clear hd IV kx hb hb' cR DM;go_wp2_with fail
   refine pY.o.mono ?_;rintro e w2⟨a2,c2,rfl,qD,dF,Ho⟩;have JK:=dF.keep HB.o.eK HB.o.nb;have d0:w2.cell? ⟨b,0,none⟩=some (.slice ak fs.length ck):=by simp[World.cell?,JK]
   have e2:w2.frozen? ⟨b,0,none⟩=false:=by simp[World.frozen?,JK]
   have h3:=oC HB.o.low JK qD;have DN:Fr (ik b v) w1 (w2.setCell ⟨b,0,none⟩ (.slice a2 ys.length c2)):=(ue.o.step dF (fun j hj ho=>by
    rcases Rp.o j (Or.inr ho)with h|h
    ·exact h
    ·omega)).setCell (p:=⟨b,0,none⟩) (fun _=>Or.inl rfl) _
   have agh:∀j,ik b (.slice a2 ys.length c2) j->ik b v j\/w1.heap.size<=j:=by
    rintro j(hj|hj)
    ·exact Or.inl (Or.inl hj)
    ·exact Rp.o j (Or.inr (by rw[<-Ho];exact hj))
   have H3:=O (And.intro h3 (And.intro DN agh));have d3:=h3.c0;have e3:=h3.free 0;clear h3 DN agh pY qD JK c0 e0 dF HB ue Rp Ho;by_cases h32:32<ys.length
   ·have alR:(32:Int)<(ys.length:Int):=ab;have pJ:(0:Int)<(ys.length:Int)-32:=ab;obtain⟨n,hn⟩:∃n:Nat,ys.length=n+32:=⟨ys.length-32,ab⟩;obtain⟨gg,rfl⟩:∃gg,a2=some ⟨gg,0,none⟩:=by
     rcases H3.o.1.rows.2.2 with ⟨hv,hq⟩|⟨g,cap,cur,hv,_⟩
     ·rw[aj]at hq;omega
     ·injection hv with h1;exact⟨g,h1⟩
    have lJ:=H3.o.1.rows;have se:(ys.map ep.cells).length=ys.length:=aj _;have qi:=PM base gg c2 0 n (ys.map ep.cells) (w2.setCell ⟨b,0,none⟩ (.slice (some ⟨gg,0,none⟩) ys.length c2)) (by rw[se];exact lJ) ab ab;rw[se]at qi;have TG:=O qi;have HN:=O hn;clear qi hn lJ se;go_wp2_with fail
    rw[show((ys.length:Int)-32)=(n:Int)from by have:=HN.o;omega];clear d0 e2;generalize w2.setCell ⟨b,0,none⟩ (.slice (some ⟨gg,0,none⟩) ys.length c2)=w3 at *
    refine TG.o.mono ?_;rintro e w6⟨rfl,yD,nt⟩;have ec:∀j,one gg j->own (.slice (some ⟨gg,0,none⟩) ys.length c2) j:=fun j hj=>by have e:j=gg:=hj;rw[e];rfl
    have XJ:=nt.keep H3.o.1.eK (fun h=>H3.o.1.nb (ec _ h));have d6:w6.cell? ⟨b,0,none⟩=some (.slice (some ⟨gg,0,none⟩) ys.length c2):=by simp[World.cell?,XJ]
    have e6:w6.frozen? ⟨b,0,none⟩=false:=by simp[World.frozen?,XJ]
    rw[List.take_zero,List.nil_append, <-List.map_drop,bw]at yD;rw[bw];have h7:=oC H3.o.1.low XJ yD;have Rl:Fr (ik b v) w1 (w6.setCell ⟨b,0,none⟩ (.slice (some ⟨gg,0,none⟩) (ys.length-n) c2)):=(H3.o.2.1.step nt (fun j hj ho=>by
     rcases H3.o.2.2 j (Or.inr (ec j ho))with h|h
     ·exact h
     ·omega)).setCell (p:=⟨b,0,none⟩) (fun _=>Or.inl rfl) _
    have XB:∀j,ik b (.slice (some ⟨gg,0,none⟩) (ys.length-n) c2) j->ik b v j\/w1.heap.size<=j:=by
     rintro j(hj|hj)
     ·exact Or.inl (Or.inl hj)
     ·exact H3.o.2.2 j (Or.inr hj)
    have H7:=O (And.intro h7 (And.intro Rl XB));clear h7 Rl XB yD nt XJ TG d3 e3;go_wp2;go_end0;refine⟨rfl,_,by rw[gy.o,show ys.length-32=n from by have:=HN.o;omega];exact H7.o.1,fN (lA.o.mono (fun _ _ h=>absurd h id)) H7.o.2.1 (fun _ _ h=>h),fun j hj=>?_⟩;rcases H7.o.2.2 j hj with h|h
    ·exact Or.inl h
    ·exact Or.inr ab
   ·have alR:¬(32:Int)<(ys.length:Int):=ab;have pJ:¬(0:Int)<(ys.length:Int)-32:=ab;go_wp2;go_end0;refine⟨rfl,_,by rw[gy.o,show ys.length-32=0 from ab,eF];exact H3.o.1,fN (lA.o.mono (fun _ _ h=>absurd h id)) H3.o.2.1 (fun _ _ h=>h),fun j hj=>?_⟩;rcases H3.o.2.2 j hj with h|h
    ·exact Or.inl h
    ·exact Or.inr ab
structure mW.Fit (x:mW):Prop where
 scheme:x.scheme.length<=100000
 token:x.token.length<=100000
 re:x.params.length<=16
 yx:∀p∈x.params,p.1.length<=99999/\p.2.length<=99999
def lr(w:World)(v:Value)(ps:List jn):Prop:=ez 2 w v (ps.map nX)
def JS(w:World)(r:JQ)(x:mW):Prop:=r.1=bA x.scheme/\r.2.1=bA x.token/\lr w r.2.2 x.params
def uj(w:World)(v:Value)(xs:List mW):Prop:=∃rs:List JQ,ez 3 w v (rs.map Aa)/\ld (JS w) rs xs
theorem TK.rd{x:mW}(h:TK base w r x):JS w r x:=⟨h.1,h.2.1,h.2.2.at⟩
theorem kQ.at{xs:List mW}(h:kQ base w v xs):uj w v xs:=by
 obtain⟨rs,h1,h2⟩:=h;exact⟨rs,h1.at,h2.mono (fun _ _ h=>h.rd)⟩
theorem JS.i_{x:mW}(h:JS w r x)(hf:Fr aX w w'):JS w' r x:=⟨h.1,h.2.1,bM h.2.2 hf⟩
theorem uj.i_{xs:List mW}(h:uj w v xs)(hf:Fr aX w w'):uj w' v xs:=by
 obtain⟨rs,h1,h2⟩:=h;exact⟨rs,h1.i_ hf,h2.mono (fun _ _ h=>h.i_ hf)⟩
theorem uj.form{xs:List mW}(h:uj w v xs):∃a c,v=.slice a xs.length c:=by
 obtain⟨rs,h1,h2⟩:=h;obtain⟨a,c,e⟩:=h1.form;exact⟨a,c,by rw[e,aj,h2.len]⟩
theorem lr.form(h:lr w v ps):∃a c,v=.slice a ps.length c:=by
 obtain⟨a,c,e⟩:=dR h;exact⟨a,c,by rw[e,aj]⟩
theorem lr.cells(h:lr w (.slice a n c) ps)(hk:ps[k]?=some p) :
  ∃bk o,a=some ⟨bk,o,none⟩/\n<=c/\c<=maxLen/\w.cell? ⟨bk,o+k*2,none⟩=some (.string (bA p.1))/\w.cell? ⟨bk,o+k*2+1,none⟩=some (.string (bA p.2)):=by
 have hl:=(List.getElem?_eq_some_iff.1 hk).1;rcases h.2 with ⟨_,_,_,e,_⟩|⟨bk,o,c',hf,h1,h2,h3,h4⟩
 ·have:ps.length=0:=by have:=ar List.length e;simpa using this
  omega
 ·cases hf;have hc:=h4 k (nX p) (by rw[List.getElem?_map,hk];rfl);exact⟨bk,o,rfl,h1,h2,hc 0 _ rfl,hc 1 _ rfl⟩
def aci(ps:List jn)(name:Bs):Value:=.tuple #[.string (bA ((ke ps name).getD [])),.bool (ke ps name).isSome]
theorem TQ{n:Bs}(h:ps[k]?=some p)(hp:dH p.1 n=true)(hn:(ps.take k).any (fun q=>dH q.1 n)=false):ke ps n=some p.2:=by
 unfold ke;have:ps.find? (fun q=>dH q.1 n)=some p:=by
  induction ps generalizing k with
  |nil=>simp at h
  |cons a l ih =>
   cases k with
   |zero=>simp at h;subst h;simp[hp]
   |succ k =>
    simp only[List.take_succ_cons,List.any_cons,eA]at hn;rw[List.find?_cons,hn.1];exact ih (by simpa using h) hn.2
 rw[this];rfl
theorem PV{n:Bs}(hn:ps.any (fun q=>dH q.1 n)=false):ke ps n=none:=by
 unfold ke;have:ps.find? (fun q=>dH q.1 n)=none:=by
  rw[List.find?_eq_none];intro q hq;rw[fA]at hn;exact hn q hq
 rw[this];rfl
def agx(ps:List jn)(n:Bs)(w:World)(t:Value)(wr:World):Prop:=∃k:Nat,k<=ps.length/\t=.int .i64 k/\(ps.take k).any (fun q=>dH q.1 n)=false/\Fr aX w wr
def Oc(ps:List jn):Prop:=ps.length<=1000000/\∀p∈ps,p.1.length<17592186044416/\p.2.length<17592186044416
theorem XX(sc tok:ai)(pv:Value)(ps:List jn)(name:ai)(w:World)(h:lr w pv ps)(hz:Oc ps)(hn:name.size<17592186044416) :
  aE 173 #[.agg #[.string sc,.string tok,pv],.string name] w fun e w'=>e=.returned (aci ps name.data.toList)/\Fr aX w w':=by
 obtain⟨av,cv,hv⟩:=h.form;subst hv;obtain⟨w1,oM⟩:∃w1,w1=w.alloc (.cells #[.string sc,.string tok,.slice av ps.length cv] 208):=⟨_,rfl⟩;have dw:Fr aX w w1:=by rw[oM];exact(ae _ _).alloc _
 have Jr:lr w1 (.slice av ps.length cv) ps:=bM h dw;have Pd:=O oM;have HZ:=O hz;have KV:=hz.1;clear oM h hz;go_enter func173,ntmps173;go_wp2_with fail
 rw[<-Pd.o];go_loopw[11] (agx ps name.data.toList w1) (fun t _=>ps.length-(intOf t).toNat)
 case atStart=>exact⟨0,aW _,rfl,rfl,ae _ _⟩
 case round =>
  obtain⟨k,hk,rfl,Hm,cR⟩:=hrel;have HN:=O Hm;clear Hm;by_cases fE:k<ps.length
  ·have qm:(k:Int)<(ps.length:Int):=ab;have dT:=O (List.getElem?_eq_getElem fE);have VP:=O (HZ.o.2 _ (bQ fE));generalize ps[k]=q at dT VP;obtain⟨nm,vl⟩:=q;obtain⟨bk,of,rfl,h1,h2,c0,c1⟩:=lr.cells (bM Jr cR) dT.o;unfold maxLen at h2;simp only at c0 c1;obtain⟨wb,jP⟩:∃wb,wb=wr.alloc (.cells #[.string (bA nm),.string (bA vl)] 142):=⟨_,rfl⟩;have kf:Fr aX wr wb:=by rw[jP];exact(ae aX wr).alloc _
   have wY:wb.heap[wr.heap.size]?=some (.cells #[.string (bA nm),.string (bA vl)] 142 (0,0)):=by rw[jP];exact aC _ _
   have qB:=O jP;clear jP;go_wp2_with fail
   rw[<-qB.o];refine(lY (bA nm) name wb (by have h:=VP.o.1;exact h) hn).mono ?_;rintro e w8⟨rfl,rY⟩;rw[fM];have O0:=O ((cR.trans kf).trans rY);cases oO:dH nm name.data.toList
   ·have p9:=O (vz dT.o HN.o oO);go_wp2;go_roundw
    case rel=>exact⟨k+1,ab,bh,p9.o,O0.o⟩
    case measure=>simp[intOf];omega
   ·have HE:=O (TQ dT.o oO HN.o);have hb8:=rY.keep wY id;have c1:w8.cell? ⟨wr.heap.size,1,none⟩=some (.string (bA vl)):=by simp[World.cell?,hb8]
    go_wp2;go_ret2;refine⟨?_,dw.trans O0.o⟩;unfold aci;rw[HE.o];rfl
  ·have qm:¬(k:Int)<(ps.length:Int):=ab;have HE:=O (show ke ps name.data.toList=none from PV (by have h:=HN.o;rw[aG ab]at h;exact h));go_wp2;go_ret2;refine⟨?_,dw.trans cR⟩;unfold aci;rw[HE.o];rfl
theorem uj.cells{xs:List mW}{x:mW}(h:uj w (.slice a n c) xs)(hk:xs[k]?=some x) :
  ∃bk o pv,a=some ⟨bk,o,none⟩/\n<=c/\c<=maxLen/\w.cell? ⟨bk,o+k*3,none⟩=some (.string (bA x.scheme))/\w.cell? ⟨bk,o+k*3+1,none⟩=some (.string (bA x.token))/\w.cell? ⟨bk,o+k*3+2,none⟩=some pv/\lr w pv x.params:=by
 obtain⟨rs,hr,hb⟩:=h;have hl:=(List.getElem?_eq_some_iff.1 hk).1;have uM:=hb.len;obtain⟨r,Bd⟩:∃r,rs[k]?=some r:=⟨_,List.getElem?_eq_getElem ab⟩;obtain⟨x',R7,e1,e2,e3⟩:=hb.get Bd;rw[hk]at R7;cases R7;rcases hr.2 with ⟨_,_,_,e,_⟩|⟨bk,o,c',hf,h1,h2,h3,h4⟩
 ·have:rs.length=0:=by have:=ar List.length e;simpa using this
  omega
 ·cases hf;have hc:=h4 k (Aa r) (by rw[List.getElem?_map,Bd];rfl);exact⟨bk,o,r.2.2,rfl,h1,h2,by rw[<-e1];exact hc 0 _ rfl,by rw[<-e2];exact hc 1 _ rfl,hc 2 _ rfl,e3⟩
variable {H : Type} {enc : TypeId × Value → H} {W : World}
structure Vm (w:World) (r:fW Value) (hs:List gT):Prop where
 ef:ot w r.ef hs
 re:hs.length<=140737488355328
 small:∀p∈hs,p.1.size<=140737488351232/\p.2.size<=140737488351232
 sized:r.KF
 body:r.body.size<=140737488351232
 part:(Lit.int .i64 r.part).wf=true
 TV:(Lit.int .i64 r.cG.port).wf=true
 agy:(Lit.int .i64 r.o.port).wf=true
theorem Vn{x:DataW H×List MemPlace}(h:DataW.trod enc prog W 0 (fun _=>true) true fuel 29 cs=some x) :
  ∃b:fW Value×List gT,(cs=b.1.cells/\ot W b.1.ef b.2/\(Lit.int .i64 b.1.part).wf=true/\(Lit.int .i64 b.1.cG.port).wf=true/\(Lit.int .i64 b.1.o.port).wf=true)/\cs.length=13/\(∀u∈cs,u.oneCell'=true) /\
   (oJ prog 29 x.1->Vm W b.1 b.2):=by
 obtain⟨hl,n,hf⟩:=pz underlying29 h;rw[FF]at hl;obtain⟨c0,c1,c2,c3,c4,c5,c6,c7,c8,c9,Gu,TB,ZY,rfl⟩:=aio hl;obtain⟨y0,h0,l0⟩:=hf 0 3 0 _ rfl tI;obtain⟨y1,h1,l1⟩:=hf 1 24 1 _ rfl Ao;obtain⟨y2,h2,l2⟩:=hf 2 26 4 _ rfl FE;obtain⟨y3,h3,l3⟩:=hf 3 9 9 _ rfl iD;obtain⟨y4,h4,l4⟩:=hf 4 27 10 _ rfl M_;obtain⟨y5,h5,l5⟩:=hf 5 4 11 _ rfl uy;obtain⟨y6,h6,l6⟩:=hf 6 9 12 _ rfl iD
 simp only[List.drop,List.take]at h0 h1 h2 h3 h4 h5 h6;obtain⟨b0,e0,w0⟩:=mB underlying3 h0;obtain⟨o,e1,w1,s1⟩:=KG h1;obtain⟨o2,pa,qu,e2,w2,s2⟩:=Vl h2;obtain⟨b3,e3,w3⟩:=fk underlying9 h3;obtain⟨v4,ps,e4,hr,hs⟩:=G9 h4;obtain⟨b5,e5⟩:=lF underlying4 h5;obtain⟨b6,e6,w6⟩:=fk underlying9 h6;unfold gz.cells at e1 e2;simp only[List.cons_append,List.nil_append,gK,jf]at e0 e1 e2 e3 e4 e5 e6
 obtain⟨rfl,rfl,rfl⟩:=e1;obtain⟨rfl,rfl,rfl,rfl,rfl⟩:=e2;subst e0 e3 e4 e5 e6;refine⟨(⟨b0,o,o2,pa,qu,b3,Gu,b5,b6⟩,ps),⟨rfl,hr,w0,w1,w2⟩,rfl,?_,fun hL=>?_⟩
 ·intro u hu;obtain⟨a,c,ev⟩:=hr.form;simp only[bE,bU,dL]at hu;rcases hu with rfl|rfl|rfl|rfl|rfl|rfl|rfl|rfl|rfl|rfl|rfl|rfl|rfl<;>first|rfl|(rw[ev];rfl)
 ·have hk:reachBytes=140737488351232:=rfl;obtain⟨g1,g2⟩:=hs (l4 hL);have q2:=s2 (l2 hL);have q1:=s1 (l1 hL);exact⟨hr,by show ps.length<=_;omega,g2,⟨w3 (l3 hL),q2.2.1,q2.2.2,q2.1,q1⟩,w6 (l6 hL),w0,w1,w2⟩
