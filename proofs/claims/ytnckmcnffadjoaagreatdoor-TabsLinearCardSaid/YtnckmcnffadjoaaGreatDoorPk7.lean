/- Lemmas for the law's walk. -/
import Derived.Test.YtnckmcnffadjoaaGreatDoorPk6
set_option maxRecDepth 100000
set_option maxHeartbeats 16000000
set_option linter.unusedSimpArgs false
namespace Go.Proofs.YtnckmcnffadjoaaGreatDoor
open Go.Proofs.Tryz
open Go.RowKit
variable {w W wc A B:World} {g k:Nat} {laid:List (String×DataW Unit)} {x:aj} {pre:List aj}
theorem Qq{P:Program}{W:World}{x:String×DataW Unit}:∀ {laid:List (String×DataW Unit)},laidMet P laid W->x∈laid->∃r,laidMet P (x :: r) W
 |y :: l,h,hm=>by
  rcases bC.1 hm with rfl|hm
  ·exact⟨l,h⟩
  ·exact Qq (laidMet.tail h) hm
theorem rS{P:Program}{W:World}{laid:List (String×DataW Unit)}{name:String}{k:IntKind}{zs:List Int}{g:Nat}{t e:TypeId}{n:Nat}
  (h:laidMet P laid W)(hm:(name,Lib.tabData k zs)∈laid)
  (hg:P.globalNamed name=some g)(TT:(P.globals[g]?).map (·.type)=some t)(ht:P.underlying t=some (.array n e))(he:P.underlying e=some (.int k))(hce:P.cellsOf e=1)(hct:P.cellsOf t=n):Lib.TabIs P W name k zs:=by
 obtain⟨r,hr⟩:=Qq h hm;exact Lib.tabIs_of_head hg TT ht he hce hct hr
theorem ZN{i:Nat}{v:Value}(h:w.cell? ⟨g,i,none⟩=some v):g<w.heap.size:=by
 cases hb:w.heap[g]? with
 |none=>simp[World.cell?,hb]at h
 |some o=>exact bq hb
theorem wR{P:Program}{name:String}{k:IntKind}{zs:List Int}(hT:Lib.TabIs P W name k zs)(hg:P.globalNamed name=some g)(hz:0<zs.length):ow W g k zs:=by
 have hc:∀(i:Nat) z,zs[i]?=some z->W.cell? ⟨g,i,none⟩=some (.int k z):=fun i z hi=>by
  obtain⟨hl,he⟩:=List.getElem?_eq_some_iff.1 hi;rw[hT.cell hg i hl,List.getD_eq_getElem?_getD,hi];rfl
 exact⟨ZN (hc 0 _ (List.getElem?_eq_getElem hz)),hc⟩
theorem Ce(h:laidMet prog laid W)(hm:("gatepost/api.Sines",Lib.tabData .u32 DW)∈laid/\("gatepost/sum.turns",Lib.tabData .i64 (o7.map Int.ofNat))∈laid):tM W :=
 ⟨wR (rS h hm.1 (g:=3) af af underlying293 underlying290 af af) af ag,
  wR (rS h hm.2 (g:=4) af af underlying299 underlying3 af af) af ag⟩
theorem Cf(h:laidMet prog laid W)(hm:("gatepost/api.Roots",Lib.tabData .u32 D0)∈laid/\("gatepost/api.Begin",Lib.tabData .u32 U8)∈laid):tP W :=
 ⟨wR (rS h hm.1 (g:=2) af af underlying293 underlying290 af af) af ag,
  wR (rS h hm.2 (g:=1) af af underlying291 underlying290 af af) af ag⟩
def RL(c:UInt8):Bool:=c<32||c==127
def lQ(s:aj):Bool:=s.data.toList.all fun c=>!RL c
def D6(user pass:aj):aj:=⟨([66,97,115,105,99,32]++vS (user.data.toList++[58]++pass.data.toList)).toArray⟩
def mZ(user pass:aj)(e:Ending):Prop :=
 if 0<=Lib.indexByte user.data.toList 58 then e=.returned (.tuple #[.string ⟨#[]⟩,.iface 105 (.int .i64 1)])
 else if lQ user&&lQ pass then e=.returned (.tuple #[.string (D6 user pass),.nilIface])
 else e=.returned (.tuple #[.string ⟨#[]⟩,.iface 105 (.int .i64 3)])
def aij(user pass:aj)(w:World)(i:Value)(wr:World):Prop:=∃k:Nat,k<=2/\i=.int .i64 k/\(0<k->lQ user=true)/\(1<k->lQ pass=true)/\Fr aS w wr
def an6(s:aj)(w:World)(i:Value)(wr:World):Prop:=∃k:Nat,k<=s.size/\i=.int .i64 k/\(s.data.toList.take k).all (fun c=>!RL c)=true/\Fr aS w wr
theorem IY{a b:aj}(h:[a,b][k]?=some x):k=0/\x=a\/k=1/\x=b:=by
 match k,h with
 |0,h=>exact .inl ⟨rfl,by simpa using h.symm⟩
 |1,h=>exact .inr ⟨rfl,by simpa using h.symm⟩
 |k+2,h=>simp at h
theorem GM(user pass:aj)(w:World)(hu:user.size<=100000)(hp:pass.size<=100000) :
  aB 49 #[.agg #[.string user,.string pass]] w fun e w'=>mZ user pass e/\Fr aS w w':=by
 have kC:Fr aS w (w.alloc (.cells #[.string user,.string pass] 39)):=(ae aS w).alloc _;have qm:=aC w (.cells #[.string user,.string pass] 39);by_cases hc:0<=Lib.indexByte user.data.toList 58
 ·have HP:=O (show∀e,mZ user pass e↔e=.returned (.tuple #[.string ⟨#[]⟩,.iface 105 (.int .i64 1)])from fun e=>by unfold mZ;rw[az hc]);have hd:decide (0<=Lib.indexByte user.data.toList 58)=true:=bJ hc;go_enter func49,ntmps49;go_wp2_with fail
  refine(strings_Contains_one user 58 _).mono ?_;rintro e u1⟨rfl,rfl⟩;rw[hd];go_wp2;go_ret2;exact⟨(HP.o _).2 rfl,kC⟩
 ·have hd:decide (0<=Lib.indexByte user.data.toList 58)=false:=bj hc;have CG:=O (show(lQ user&&lQ pass)=false->mZ user pass (.returned (.tuple #[.string ⟨#[]⟩,.iface 105 (.int .i64 3)]))from fun h=>by unfold mZ;rw[aq hc,aq (by simp[h])]);have NZ:=O (show(lQ user&&lQ pass)=true->mZ user pass (.returned (.tuple #[.string (D6 user pass),.nilIface]))from fun h=>by unfold mZ;rw[aq hc,az h])
  have mF:=O kC;have HCA:=O (show∀U,Fr aS (w.alloc (.cells #[.string user,.string pass] 39)) U->U.cell? ⟨w.heap.size,0,none⟩=some (.string user)/\U.cell? ⟨w.heap.size,1,none⟩=some (.string pass)from fun U hU=>by
   have sH:=hU.keep qm id;simp[World.cell?,sH])
  have Nk:Fr aS w ((w.alloc (.cells #[.string user,.string pass] 39)).alloc (.cells #[.string user,.string pass] 9)):=kC.alloc _;have xY:∀U,Fr aS ((w.alloc (.cells #[.string user,.string pass] 39)).alloc (.cells #[.string user,.string pass] 9)) U ->
    U.cell? ⟨w.heap.size,0,none⟩=some (.string user)/\U.cell? ⟨w.heap.size,1,none⟩=some (.string pass)/\∀(k:Nat) x,[user,pass][k]?=some x->U.cell? ⟨w.heap.size+1,k,none⟩=some (.string x):=fun U hU=>by
   have lZ:=hU.keep (((ae aS _).alloc _).keep qm id) id;have sH:=hU.keep (aC (w.alloc (.cells #[.string user,.string pass] 39)) (.cells #[.string user,.string pass] 9)) id;rw[bP]at sH;refine⟨by simp[World.cell?,lZ],by simp[World.cell?,lZ],fun k x hx=>?_⟩;rcases IY hx with ⟨rfl,rfl⟩|⟨rfl,rfl⟩<;>simp[World.cell?,sH]
  have FN:=O xY;have rU:=O Nk;clear kC qm xY Nk;go_enter func49,ntmps49;go_wp2_with fail
  refine(strings_Contains_one user 58 _).mono ?_;rintro e u1⟨rfl,rfl⟩;rw[hd];go_wp2;obtain⟨wl,Fq⟩:∃wl,wl=(w.alloc (.cells #[.string user,.string pass] 39)).alloc (.cells #[.string user,.string pass] 9):=⟨_,rfl⟩;rw[<-Fq]at FN rU ⊢;clear Fq;go_loopw[17] (aij user pass wl) (fun i _=>2-(intOf i).toNat)
  case atStart=>exact⟨0,ab,rfl,ab,ab,ae _ _⟩
  case round =>
   obtain⟨k,hk,rfl,pq,dk,cP⟩:=hrel;generalize wr=wo at *
   by_cases sH:k<2
   ·have an7:(k:Int)<2:=ab;obtain⟨s,hs⟩:∃s,[user,pass][k]?=some s:=⟨_,List.getElem?_eq_getElem (by simpa using sH)⟩;have hcell:=(FN.o wo cP).2.2 k s hs;have xS:s.size<=100000:=by rcases IY hs with ⟨_,rfl⟩|⟨_,rfl⟩<;>assumption
    have Fu:=O (show lQ s=true->(0<k+1->lQ user=true)/\(1<k+1->lQ pass=true)from fun h=>by
     rcases IY hs with ⟨rfl,rfl⟩|⟨rfl,rfl⟩
     ·exact⟨fun _=>h,fun h=>ab⟩
     ·exact⟨fun _=>pq ab,fun _=>h⟩)
    have HNO:=O (show lQ s=false->(lQ user&&lQ pass)=false from fun h=>by
     rcases IY hs with ⟨rfl,rfl⟩|⟨rfl,rfl⟩<;>simp[h])
    clear hs pq dk;go_wp2;go_loopw[23] (an6 s wl) (fun i _=>s.size-(intOf i).toNat)
    case atStart=>exact⟨0,ab,rfl,rfl,cP⟩
    case round =>
     obtain⟨j,hj,rfl,iI,jz⟩:=hrel;by_cases hj2:j<s.size
     ·have an8:(j:Int)<(s.size:Int):=ab;have rj:=byte_at s j hj2;by_cases hb:RL s[j]=true
      ·have HFI:=O (show lQ s=false by
        unfold lQ;rw[jt];exact⟨s[j],bQ rj,by simp[hb]⟩)
       have hor:s[j].toNat<32\/s[j].toNat=127:=by
        unfold RL at hb;simp only[Bool.or_eq_true,du,dX]at hb;rcases hb with h|h
        ·exact .inl (UInt8.lt_iff_toNat_lt.1 h)
        ·exact .inr (by rw[h];rfl)
       by_cases h32:s[j].toNat<32
       ·have ail:(s[j].toNat:Int)<32:=ab;go_wp2;go_ret2;exact⟨CG.o (HNO.o HFI.o),rU.o.trans jz⟩
       ·have ail:¬(s[j].toNat:Int)<32:=ab;have avc:s[j].toNat=127:=ab;have aim:(s[j].toNat:Int)=127:=ab;go_wp2;go_ret2;exact⟨CG.o (HNO.o HFI.o),rU.o.trans jz⟩
      ·have hor:¬s[j].toNat<32/\¬s[j].toNat=127:=by
        unfold RL at hb;simp only[Bool.or_eq_true,du,dX,not_or]at hb;exact⟨fun h=>hb.1 (UInt8.lt_iff_toNat_lt.2 h),fun h=>hb.2 (jd.1 h)⟩
       obtain⟨o1,o2⟩:=hor;have ail:¬(s[j].toNat:Int)<32:=ab;have aim:¬(s[j].toNat:Int)=127:=ab;have Bg:=O (show(s.data.toList.take (j+1)).all (fun c=>!RL c)=true by
        rw[cj,rj,ki,iI];simp[hb])
       clear rj iI;go_wp2;go_roundw
       case rel=>exact⟨j+1,ab,bg,Bg.o,jz⟩
       case measure=>simp[intOf];omega
     ·have an8:¬(j:Int)<(s.size:Int):=ab;have HFI:=O (show lQ s=true by
       unfold lQ;rw[aD bH]at iI;exact iI)
      clear iI;go_wp2;go_roundw
      case rel=>exact⟨k+1,ab,bg,(Fu.o HFI.o).1,(Fu.o HFI.o).2,jz⟩
      case measure=>simp[intOf];omega
   ·have an7:¬(k:Int)<2:=ab;have Bm:(lQ user&&lQ pass)=true:=by rw[pq ab,dk ab];rfl
    have HPO:=O (NZ.o Bm);obtain⟨c0,c1,_⟩:=FN.o wo cP;have qw:¬9223372036854775807<user.size+1:=ab;have kJ:¬9223372036854775807<user.size+1+pass.size:=ab;clear pq dk Bm;have an9:=O (fun W=>NY (user++⟨#[58]⟩++pass) W (by simp[jo];show user.size+1+pass.size<_;omega));have xL:=O (show(vS (user++⟨#[58]⟩++pass).data.toList).length<=400000 from by rw[Qx];simp[gS];omega)
    have HEQ:=O (show(⟨#[66,97,115,105,99,32]⟩++⟨(vS (user++⟨#[58]⟩++pass).data.toList).toArray⟩:aj)=D6 user pass from by
     apply Go.WideShapes.bytes_inj;unfold D6;simp[gS])
    go_wp2_with fail
    refine(an9.o _).mono ?_;rintro e w7⟨rfl,nO⟩;generalize vS (user++⟨#[58]⟩++pass).data.toList=bl at *
    have tO:¬9223372036854775807<6+bl.length:=by have:=xL.o;omega
    go_wp2;go_ret2;rw[<-HEQ.o]at HPO;exact⟨HPO.o,(rU.o.trans cP).trans nO⟩
open Go.RowKit Go.Shelf
attribute [local go_sem] Oper.semAt_some
theorem I2(s sep:aj)(w:World) :
  aB 153 #[.string s,.string sep] w fun e w' =>
   e=.returned (.func (.func 234) #[] #[.pointer (some ⟨w.heap.size+1,0,none⟩),.pointer (some ⟨w.heap.size,0,none⟩),.pointer (some ⟨w.heap.size+2,0,none⟩)]) /\
   w'=((w.alloc (.cells #[.string s] 9)).alloc (.cells #[.string sep] 9)).alloc (.cells #[.int .i64 0] 3):=by
 have Yi:aB 203 #[.string s,.string sep,.int .i64 0] w fun e w' =>
   e=.returned (.func (.func 234) #[] #[.pointer (some ⟨w.heap.size+1,0,none⟩),.pointer (some ⟨w.heap.size,0,none⟩),.pointer (some ⟨w.heap.size+2,0,none⟩)]) /\
   w'=((w.alloc (.cells #[.string s] 9)).alloc (.cells #[.string sep] 9)).alloc (.cells #[.int .i64 0] 3):=by
  go_enter func203,ntmps203;go_wp2;go_ret;exact⟨rfl,rfl⟩
 go_enter func153,ntmps153;go_wp2_with fail
 refine Yi.mono ?_;rintro e w1⟨rfl,rfl⟩;go_wp2;go_ret;exact⟨rfl,rfl⟩
theorem Vn(f:aH->Nat):∀(L:List (aH)) (l:aH),l∈L->f l<=(L.map f).sum
 |a :: L,l,h=>by
  simp only[cF,List.sum_cons];rcases bC.1 h with rfl|h
  ·omega
  ·have:=Vn f L l h;omega
theorem N6{c:UInt8}{s:aj}(h:x∈ji c s):x.size<=s.size:=by
 unfold ji at h;obtain⟨l,hl,rfl⟩:=bZ.1 h;have h1:=Bp c s.data.toList;have h2:l.length+1<=((eh c s.data.toList).map fun p=>p.length+1).sum:=Vn (fun p=>p.length+1) _ l hl;have h3:s.data.toList.length=s.size:=aR;show l.toArray.size<=_;simp only[aX];omega
def ry:aj:=⟨#[97,98,99,100,101,102,103,104,105,106,107,108,109,110,111,112,113,114,115,116,117,118,119,120,121,122,48,49,50,51,52,53,54,55,56,57,45]⟩
theorem FP:∀b∈ry.data.toList,b.toNat<128:=dw
theorem Lx:∀n:Fin 256,ry.data.toList.contains n.val.toUInt8=KE n.val.toUInt8:=dw
theorem Ci(l:aH):l.all (ry.data.toList.contains ·)=l.all KE:=by
 congr 1;funext c
 have h:=Lx ⟨c.toNat,c.toNat_lt⟩;simpa using h
def uS(s:aj):Bool:=P4 s.data.toList
def wT(w wc W:World):Prop:=W.heap[w.heap.size]?=some (.cells #[.bool false] 4 (0,0))/\Fr aS w W/\wc.heap.size<=W.heap.size
def Ly(w wc:World)(pre:List aj)(W:World):Prop:=(∀p∈pre,Dr p.data.toList=true)/\wT w wc W
def Vo(w wc:World)(pre:List aj)(W:World):Prop:=(∃p∈pre,Dr p.data.toList=false)/\wT w wc W
theorem wT.fr(hz:wc.heap.size=w.heap.size+4)(h:wT w wc A)(hf:Fr (D7 (w.heap.size+1) wc.heap.size) A B):wT w wc B :=
 ⟨hf.keep h.1 (by unfold D7;omega),h.2.1.step hf (fun j hj hk=>by unfold D7 at hk;omega),aE h.2.2 hf.size⟩
theorem wT.grow(h:wT w wc A)(hf:Fr aS A B):wT w wc B:=⟨hf.keep h.1 id,h.2.1.trans hf,aE h.2.2 hf.size⟩
theorem wT.put(h:wT w wc A):wT w wc (A.setCell ⟨w.heap.size,0,none⟩ (.bool false)) :=
 ⟨by simp[World.setCell,Array.getElem?_modify,h.1],h.2.1.gN (p:=⟨w.heap.size,0,none⟩) (ay _) _,by simpa[World.setCell]using h.2.2⟩
theorem Fr.others(h:Fr aS A B):KeepsOthers A B:=⟨h.size,fun _ _ hk _=>h.keep hk id⟩
theorem Fr.ad7(h:Fr aS A B)(hk:k+3<=A.heap.size):wS k A B:=fun j _ h2=>h.block j ab id
theorem Vp(h:Ly w wc pre W)(hx:Dr x.data.toList=false)(A:World)(hA:Fr aS W A)(aa:Act) :
  N0 (w.heap.size+1) (Ly w wc) (Vo w wc) (pre++[x]) W .ret aa (A.setCell ⟨w.heap.size,0,none⟩ (.bool false)) :=
 ⟨hA.others.trans (KeepsOthers.setCell A _ _),⟨x,aR,hx⟩,(h.2.grow hA).put⟩
theorem RS(hz:wc.heap.size=w.heap.size+4)(h:Ly w wc pre W)(hx:Dr x.data.toList=true)(A:World)(hA:Fr aS W A)(aa:Act) :
  N0 (w.heap.size+1) (Ly w wc) (Vo w wc) (pre++[x]) W .normal aa A :=
 ⟨hA.others,hA.ad7 (by have:=h.2.2.2;omega),fun p hp=>by
  rcases bL.1 hp with hp|hp
  ·exact h.1 p hp
  ·rw[cH]at hp;subst hp;exact hx,h.2.grow hA⟩
theorem Vq(s:aj)(w:World)(hs:s.size<100000) :
  aB 92 #[.string s] w fun e w'=>e=.returned (.bool (uS s))/\Fr aS w w':=by
 by_cases h60:60<s.size
 ·have i60:(60:Int)<(s.size:Int):=ab;have HT:=O (show uS s=false by unfold uS P4;rw[bj (by simpa using h60)];rfl);go_enter func92,ntmps92;go_wp2;refine aW (v:=.bool false) ?_ rfl ⟨by rw[HT.o],?_⟩
  ·simp[results,Tryz.f92,go_sem]
  ·first|exact(ae aS w).alloc _|exact((ae aS w).alloc _).gN (p:=⟨w.heap.size,0,none⟩) (ay _) _
 ·have i60:¬(60:Int)<(s.size:Int):=ab;obtain⟨wb,kj⟩:∃wb,wb=w.alloc (.cells #[.bool false] 4):=⟨_,rfl⟩;have hzb:wb.heap.size=w.heap.size+1:=by rw[kj];simp
  have kC:Fr aS w wb:=by rw[kj];exact(ae aS w).alloc _
  have N7:wb.heap[w.heap.size]?=some (.cells #[.bool false] 4 (0,0)):=by rw[kj];exact aC _ _
  obtain⟨wc,hwc⟩:∃wc,wc=((wb.alloc (.cells #[.string s] 9)).alloc (.cells #[.string ⟨#[46]⟩] 9)).alloc (.cells #[.int .i64 0] 3):=⟨_,rfl⟩;have hfc:Fr aS wb wc:=by rw[hwc];exact(((ae aS wb).alloc _).alloc _).alloc _
  have hzc:wc.heap.size=w.heap.size+4:=by rw[hwc];simp[hzb]
  have hc0:wc.heap[w.heap.size+1]?=some (.cells #[.string s] 9 (0,0)):=by
   rw[hwc, <-hzb];exact(((ae aS _).alloc _).alloc _).keep (aC wb _) id
  have pK:wc.heap[w.heap.size+1+1]?=some (.cells #[.string ⟨#[46]⟩] 9 (0,0)):=by
   rw[hwc, <-hzb];have:=((ae aS _).alloc (.cells #[.int .i64 0] 3)).keep (aC (wb.alloc (.cells #[.string s] 9)) (.cells #[.string ⟨#[46]⟩] 9)) id;simpa using this
  have sR:wc.heap[w.heap.size+1+2]?=some (.cells #[.int .i64 0] 3 (0,0)):=by
   rw[hwc, <-hzb];have:=aC ((wb.alloc (.cells #[.string s] 9)).alloc (.cells #[.string ⟨#[46]⟩] 9)) (.cells #[.int .i64 0] 3);simpa using this
  have HSS:=O ((I2 s ⟨#[46]⟩ wb).mono (R':=fun e w'=>e=.returned (.func (.func 234) #[] #[.pointer (some ⟨w.heap.size+1+1,0,none⟩),.pointer (some ⟨w.heap.size+1,0,none⟩),.pointer (some ⟨w.heap.size+1+2,0,none⟩)])/\wc=w') (fun e w' h=>by rw[hzb, <-hwc]at h;exact⟨h.1,h.2.symm⟩));have ri:=O kj;clear kj hwc;refine(callsIn_wide (n:=5)).1 ?_;refine callsIn_of_wp_marks func92 rfl trivial ?_ rfl
  simp only[ntmps92,aX,List.length_cons,List.length_nil,Nat.reduceAdd,Nat.reduceSub,Array.replicate_succ,Array.replicate_zero,List.push_toArray,List.append_toArray,List.nil_append,List.cons_append]
  gi_wp2_with fail
  rw[<-ri.o];refine⟨trivial,?_⟩;refine(callsIn_wide.2 HSS.o).mono ?_;rintro e u⟨rfl,rfl⟩;gi_wp2;have hkc:=hfc.keep N7 id;have aiw:=kC.trans hfc;have ad9:=O (show uS s=(ji 46 s).all (fun p=>Dr p.data.toList)by
   unfold uS P4 ji;rw[bJ (by simpa using Nat.le_of_not_lt h60),jS,List.all_map];rfl)
  refine Bo rfl ag (gf:=234) (lb:= #[.pointer (some ⟨w.heap.size+1+1,0,none⟩),.pointer (some ⟨w.heap.size+1,0,none⟩),.pointer (some ⟨w.heap.size+1+2,0,none⟩)]) rfl trivial (enters_of func234 af rfl)
   (enc:=fun x:aj=>Value.string x) (k:=w.heap.size+1) (ys:=ji 46 s) ab (CI s (w.heap.size+1) 4 wc ag hs hc0 pK sR) rfl
   (Ly w wc) (Vo w wc) (fun xs A B h f=>⟨h.1,h.2.fr hzc f⟩) (fun xs A B h f=>⟨h.1,h.2.fr hzc f⟩) ⟨(fun p hp=>by cases hp),hkc,aiw,ay _⟩
   (fun x=>{tmps:= #[.string s,undef,.pointer (some ⟨w.heap.size,0,none⟩),.string x,.string s,.int .i64 s.size,.bool false,.string s,.func (.func 234) #[] #[.pointer (some ⟨w.heap.size+1+1,0,none⟩),.pointer (some ⟨w.heap.size+1,0,none⟩),.pointer (some ⟨w.heap.size+1+2,0,none⟩)],.string x,undef,undef,undef,undef,undef,undef,undef,undef,undef,undef,undef,undef,undef,undef,undef,undef,undef,undef,undef,undef],defers:=[]}) ?assign ?body ?done ?stop
  case assign =>
   intro l x W K hK;gi_wp2;exact hK
  case body =>
   intro l pre x W hi hxp;have hxz:x.size<=s.size:=N6 (hxp.subset aR);clear hxp;have GN:=O (fun hx=>RS (x:=x) hzc hi hx);have CG:=O (fun hx=>Vp (x:=x) hi hx);obtain⟨_,hr,_,_⟩:=hi;have HR:=O hr;have c0:W.cell? ⟨w.heap.size,0,none⟩=some (.bool false):=by simp[World.cell?,hr]
   have c1:W.frozen? ⟨w.heap.size,0,none⟩=false:=by simp[World.frozen?,hr]
   clear hr N7 hkc hc0 pK sR kC hfc aiw hzb HSS ri ad9;by_cases I7:x.size=0
   ·have hl:Dr x.data.toList=false:=by
     have:x.data.toList=[]:=by apply ct;simpa using I7
     rw[this];rfl
    have hem:x.toList=[]:=by rw[aP];apply ct;simpa using I7
    have avj:x.toList.isEmpty=true:=by rw[hem];rfl
    have HB:=O (CG.o hl);clear hl CG GN;gi_wp2;refine⟨trivial,?_⟩;gi_wp2;exact HB.o W (ae _ _) _
   ·obtain⟨m,hm⟩:∃m,x.size=m+1:=⟨x.size-1,ab⟩;have hne:¬x.toList=[]:=by rw[aP];intro h;apply I7;have:=ar List.length h;simpa using this
    have Vr:x.toList.isEmpty=false:=by simpa using hne
    have HEM:=O (show x.data.toList.isEmpty=false by rw[<-aP];exact Vr);have HH0:=O (show x.data.toList.head?=some (x[0]'ab)by rw[List.head?_eq_getElem?];exact byte_at x 0 ab);have HHL:=O (show x.data.toList.getLast?=some (x[m]'ab)by
     rw[List.getLast?_eq_getElem?]
     have:x.data.toList.length-1=m:=by have:x.data.toList.length=x.size:=by simp
                                       omega
     rw[this];exact byte_at x m ab)
    have hm1:((x.size:Nat):Int)-1=(m:Int):=ab;have J4:(m:Int)<(x.size:Int):=ab;have hm3:(0:Int)<=(m:Int):=ab;have hm4:m<x.size:=ab;have hm5:0<x.size:=ab;have hm6:(0:Int)<(x.size:Int):=ab;have Vs:∀c:UInt8,c=45↔(c.toNat:Int)=45:=fun c=>by
     constructor
     ·rintro rfl;rfl
     ·intro h;exact UInt8.toNat.inj (by have:(45:UInt8).toNat=45:=rfl;omega)
    by_cases ZW:x[0]'ab=45
    ·have i0:(((x[0]'ab).toNat:Int)==45)=true:=dX.2 ((Vs _).1 ZW);have i0':((x[0]'ab).toNat:Int)=45:=(Vs _).1 ZW;have HB:=O (CG.o (by unfold Dr;rw[HH0.o,ZW];simp));clear CG GN HEM HH0 HHL Vs ZW;gi_wp2;refine⟨trivial,?_⟩;gi_wp2;exact HB.o W (ae _ _) _
    ·have i0:(((x[0]'ab).toNat:Int)==45)=false:=aO.2 (fun h=>ZW ((Vs _).2 h));have i0':¬((x[0]'ab).toNat:Int)=45:=fun h=>ZW ((Vs _).2 h);by_cases g45:x[m]'ab=45
     ·have i1:(((x[m]'ab).toNat:Int)==45)=true:=dX.2 ((Vs _).1 g45);have i1':((x[m]'ab).toNat:Int)=45:=(Vs _).1 g45;have HB:=O (CG.o (by unfold Dr;rw[HHL.o,g45];simp));clear CG GN HEM HH0 HHL Vs g45 ZW;gi_wp2;refine⟨trivial,?_⟩;gi_wp2;exact HB.o W (ae _ _) _
     ·have i1:(((x[m]'ab).toNat:Int)==45)=false:=aO.2 (fun h=>g45 ((Vs _).2 h));have i1':¬((x[m]'ab).toNat:Int)=45:=fun h=>g45 ((Vs _).2 h);have xL:=O (show Dr x.data.toList=x.data.toList.all KE by
       unfold Dr;rw[HEM.o,HH0.o,HHL.o,show(some (x[0]'ab)==some 45)=false by simpa using ZW,show(some (x[m]'ab)==some 45)=false by simpa using g45];rfl)
      have HTR:=O (sV x ry W ab ag ag FP);clear HEM HH0 HHL Vs g45 ZW
      gi_wp2_with fail
      refine⟨trivial,?_⟩;refine(CallsIn.inRound l (callsIn_wide.2 HTR.o)).mono ?_;rintro e u⟨rfl,yL⟩;cases iI:x.data.toList.all KE
      ·have P5:Lib.trimS x.data.toList ry.data.toList≠ []:=fun h=>by rw[xt,Ci,iI]at h;cases h
       have t1:¬(⟨(Lib.trimS x.data.toList ry.data.toList).toArray⟩:aj).toList=[]:=by rw[aP];simpa using P5
       have t2:(⟨(Lib.trimS x.data.toList ry.data.toList).toArray⟩:aj).toList.isEmpty=false:=by simpa using t1
       have HB:=O (CG.o (xL.o.trans iI));have JZ:=yL.keep HR.o id;have d0:u.cell? ⟨w.heap.size,0,none⟩=some (.bool false):=by simp[World.cell?,JZ]
       have d1:u.frozen? ⟨w.heap.size,0,none⟩=false:=by simp[World.frozen?,JZ]
       clear P5 iI CG GN xL HTR c0 c1;generalize (⟨(Lib.trimS x.data.toList ry.data.toList).toArray⟩:aj)=z at *
       gi_wp2;exact HB.o u yL _
      ·have P5:Lib.trimS x.data.toList ry.data.toList=[]:=by rw[xt,Ci,iI]
       rw[P5];have HG:=O (GN.o (xL.o.trans iI));clear P5 iI CG GN xL HTR;gi_wp2;exact HG.o u yL _
  case done =>
   rintro D W rfl⟨iI,hw⟩hd;have c0:W.cell? ⟨w.heap.size,0,none⟩=some (.bool false):=by simp[World.cell?,hw.1]
   have c1:W.frozen? ⟨w.heap.size,0,none⟩=false:=by simp[World.frozen?,hw.1]
   have HT:=O (show uS s=true by rw[ad9.o,gH];exact iI);have HF:=O hw.2.1;clear hw;gi_wp2;have tZ:=(KeepsOthers.setCell W ⟨w.heap.size,0,none⟩ (.bool true)).same _ _ hd rfl;refine⟨aR,.inl ⟨_,_,rfl,run_takeDeferred tZ,?_⟩⟩
   have uE:=cell_kept (World.cell?_setCell_same' W ⟨w.heap.size,0,none⟩ (.bool true) (by rw[c0];rfl)) (grownBy_putObj' _ wc.heap.size (.deferred none)) (fun r e=>by cases e;exact⟨_,tZ,rfl⟩);refine⟨.bool true,?_,by rw[HT.o],(HF.o.gN (p:=⟨w.heap.size,0,none⟩) (ay _) _).putObj (fun hl=>ab) _⟩;simp[results,Tryz.f92,go_sem,uE]
  case stop =>
   rintro D xs W rfl hxs⟨⟨p,hp,hlp⟩,hw⟩hd;have HT:=O (show uS s=false by rw[ad9.o,jt];exact⟨p,hxs.subset hp,by simp[hlp]⟩);have c0:W.cell? ⟨w.heap.size,0,none⟩=some (.bool false):=by simp[World.cell?,hw.1]
   have HF:=O hw.2.1;clear hw;gi_wp2;refine⟨aR,.inl ⟨_,_,rfl,run_takeDeferred hd,?_⟩⟩;have uE:=cell_kept c0 (grownBy_putObj' _ wc.heap.size (.deferred none)) (fun r e=>by cases e;exact⟨_,hd,rfl⟩);refine⟨.bool false,?_,by rw[HT.o],HF.o.putObj (fun hl=>ab) _⟩;simp[results,Tryz.f92,go_sem,uE]
def oa(o:gG):Bool:=adr ⟨o.aG,o.host.data.toList,o.port⟩
theorem GP(o:gG)(w:World)(hs:o.host.size<100000) :
  aB 46 #[.agg o.cells.toArray] w fun e w'=>e=.returned (.bool (oa o))/\Fr aS w w':=by
 obtain⟨sec,host,port⟩:=o;unfold gG.cells;have HR:=O (show oa ⟨sec,host,port⟩=(uS host&&(decide (1<=port)&&decide (port<=65535)))from rfl);obtain⟨wb,kj⟩:∃wb,wb=w.alloc (.cells #[.bool sec,.string host,.int .i64 port] 32):=⟨_,rfl⟩;have kC:Fr aS w wb:=by rw[kj];exact(ae aS w).alloc _
 have lZ:wb.heap[w.heap.size]?=some (.cells #[.bool sec,.string host,.int .i64 port] 32 (0,0)):=by rw[kj];exact aC _ _
 have ri:=O kj;clear kj;go_enter func46,ntmps46;go_wp2_with fail
 rw[<-ri.o];refine(Vq host wb hs).mono ?_;rintro e u⟨rfl,yL⟩;have sH:=yL.keep lZ id;have c2:u.cell? ⟨w.heap.size,2,none⟩=some (.int .i64 port):=by simp[World.cell?,sH]
 generalize uS host=b at *
 cases b
 ·go_wp2;go_ret;exact⟨by rw[HR.o];rfl,kC.trans yL⟩
 ·by_cases h1:1<=port
  ·have d1:decide (1<=port)=true:=bJ h1;go_wp2;go_ret;exact⟨by rw[HR.o,d1];rfl,kC.trans yL⟩
  ·have d1:decide (1<=port)=false:=bj h1;go_wp2;go_ret;exact⟨by rw[HR.o,d1];rfl,kC.trans yL⟩
theorem rY(base:Nat)(v:Value)(ss:List aj)(w:World)(h:dx base w v ss) :
  aB 115 #[v] w fun e w'=>∃a c,e=.returned (.slice a ss.length c)/\dx base w' (.slice a ss.length c) ss/\Fr aS w w':=by
 have hl:=h.sZ;rcases h.rd with ⟨a,c,rfl,rfl,_⟩|⟨bk,o,c,rfl,h1,h2,h3,h4⟩
 ·cases a with
  |none=>exact(slices_Clone_string_nil 0 c w).mono fun e w' ⟨he,hw⟩=>⟨none,0,he,dx.nil _ _,hw▸ae _ _⟩
  |some a =>
   refine(slices_Clone_string_zero a c w).mono fun e w' ⟨v',he,ho,_,hb⟩=>?_;have hs:Strs w.heap.size w' v' []:=ho;obtain⟨a',c',hv⟩:=hs.form;exact⟨a',c',by rw[he,hv],by rw[<-hv];exact hs.in hl,fx hb⟩
 ·refine(slices_Clone_string bk o ss.length c ss w (ay _) ab (fun j hj=>h4 j _ (by simp[List.getD,hj]))).mono fun e w' ⟨v',he,ho,_,hb⟩=>?_;rw[aD (ay _)]at ho;have hs:Strs w.heap.size w' v' ss:=ho;obtain⟨a',c',hv⟩:=hs.form;exact⟨a',c',by rw[he,hv],by rw[<-hv];exact hs.in hl,fx hb⟩
def Vw(base:Nat)(m:aQ bE)(w:World)(e:Ending)(w':World):Prop :=
 ∃r:aQ Value,e=.returned (.agg r.cells.toArray)/\r.Reads (dx base w') m/\(∀u∈r.cells,u.oneCell'=true)/\Fr aS w w'
theorem GU{r:aQ Value}{a b:eO}{n m c d:Nat}(h1:r.a.dom=.slice a n c)(h2:r.paths=.slice b m d):∀u∈r.cells,u.oneCell'=true:=by
 intro u hu;simp only[aQ.cells,bC,cA,dY]at hu;rcases hu with rfl|rfl|rfl|rfl|rfl|rfl|rfl|rfl|rfl|rfl|rfl|rfl|rfl|rfl|rfl|rfl<;>first|rfl|(rw[h1];rfl)|(rw[h2];rfl)
theorem uU(base:Nat)(g:aQ Value)(m:aQ bE)(w:World)(iL:base<=w.heap.size)(h:g.Reads (dx base w) m) :
  aB 93 #[.agg g.cells.toArray] w (Vw base m w):=by
 have hpi:=h.2.2.2.2.2.2;have hdi:=h.2.2.2.2.1.2.2.2.2.2.2.2;have H:=O h;clear h;unfold aQ.cells;obtain⟨ad,cd,hd⟩:=hdi.rd.form;obtain⟨ap,cp,hp⟩:=hpi.rd.form;rw[hp]at hpi;rw[hd]at hdi;rw[hd,hp];clear hd hp;go_enter func93,ntmps93;go_wp2_with fail
 have pq:Fr aS w _:=((ae aS w).alloc (.cells #[.bool g.o.aG,.string g.o.host,.int .i64 g.o.port,.bool g.proxy,.string g.user,.string g.pass,.int .i64 g.a.scheme,.string g.a.aM,.string g.a.bu,.string g.a.cz,.bool g.a.cD,.string g.a.eJ,.bool g.a.cR,.slice ad m.a.dom.length cd,.int .i64 g.count,.slice ap m.paths.length cp] 114)).alloc (.cells eY 114)
 have b0:=Below.heap_alloc (w.alloc (.cells #[.bool g.o.aG,.string g.o.host,.int .i64 g.o.port,.bool g.proxy,.string g.user,.string g.pass,.int .i64 g.a.scheme,.string g.a.aM,.string g.a.bu,.string g.a.cz,.bool g.a.cD,.string g.a.eJ,.bool g.a.cR,.slice ad m.a.dom.length cd,.int .i64 g.count,.slice ap m.paths.length cp] 114)) (.cells eY 114) w.heap.size aR;rw[aC]at b0
 have b1:=aC (w.alloc (.cells #[.bool g.o.aG,.string g.o.host,.int .i64 g.o.port,.bool g.proxy,.string g.user,.string g.pass,.int .i64 g.a.scheme,.string g.a.aM,.string g.a.bu,.string g.a.cz,.bool g.a.cD,.string g.a.eJ,.bool g.a.cR,.slice ad m.a.dom.length cd,.int .i64 g.count,.slice ap m.paths.length cp] 114)) (.cells eY 114)
 rw[show(w.alloc (.cells #[.bool g.o.aG,.string g.o.host,.int .i64 g.o.port,.bool g.proxy,.string g.user,.string g.pass,.int .i64 g.a.scheme,.string g.a.aM,.string g.a.bu,.string g.a.cz,.bool g.a.cD,.string g.a.eJ,.bool g.a.cR,.slice ad m.a.dom.length cd,.int .i64 g.count,.slice ap m.paths.length cp] 114)).heap.size=w.heap.size+1 from aR]at b1
 generalize (w.alloc (.cells _ 114)).alloc _=W at pq b0 b1;have hpi:=hpi.dm pq;have hdi:=hdi.dm pq;refine(rY base _ m.paths W hpi).mono ?_;rintro e u1⟨a1,c1,rfl,Cy,dk⟩;have TW:=dk.keep b0 id;have Vx:=dk.keep b1 id;have aiC:=hdi.dm dk;have aeb:=pq.trans dk;have c13:u1.cell? ⟨w.heap.size,13,none⟩=some (.slice ad m.a.dom.length cd):=by simp[World.cell?,TW]
 have c15:u1.cell? ⟨w.heap.size,15,none⟩=some (.slice ap m.paths.length cp):=by simp[World.cell?,TW]
 have f15:u1.frozen? ⟨w.heap.size,15,none⟩=false:=by simp[World.frozen?,TW]
 clear pq b0 b1 dk hpi hdi;have hlw:w.heap.size<=u1.heap.size:=aeb.size;go_wp2_with fail
 have dE:=aeb.gN (p:=⟨w.heap.size,15,none⟩) (ay _) (.slice a1 m.paths.length c1);have b0:=cq TW 15 (.slice a1 m.paths.length c1);have b1:=(tL (w:=u1) (b:=w.heap.size) (g:=w.heap.size+1) ab 15 (.slice a1 m.paths.length c1)).trans Vx;have rZ:sG base u1 (one w.heap.size):=by
  rintro k rfl hk;exact⟨iL,fun c f e=>by rw[TW]at e;cases e⟩
 have kR:Fr (one w.heap.size) u1 (u1.setCell ⟨w.heap.size,15,none⟩ (.slice a1 m.paths.length c1)):=(ae (one w.heap.size) u1).setCell (p:=⟨w.heap.size,15,none⟩) (fun _=>rfl) _;have Nf:=Cy.fr kR rZ;have td:=aiC.fr kR rZ;clear Cy aiC rZ kR TW Vx aeb c13 c15 f15;generalize u1.setCell ⟨w.heap.size,15,none⟩ (.slice a1 m.paths.length c1)=U at *
 refine(rY base _ m.a.dom U td).mono ?_;rintro e u2⟨a2,c2,rfl,Ut,iz⟩
 have TW:u2.heap[w.heap.size]?=some (.cells #[.bool g.o.aG,.string g.o.host,.int .i64 g.o.port,.bool g.proxy,.string g.user,.string g.pass,.int .i64 g.a.scheme,.string g.a.aM,.string g.a.bu,.string g.a.cz,.bool g.a.cD,.string g.a.eJ,.bool g.a.cR,.slice ad m.a.dom.length cd,.int .i64 g.count,.slice a1 m.paths.length c1] 114 (0,0)):=iz.keep b0 id;have Vx:=iz.keep b1 id;have hs4:=Nf.dm iz
 have HF:=dE.trans iz;have c13:u2.cell? ⟨w.heap.size,13,none⟩=some (.slice ad m.a.dom.length cd):=by simp[World.cell?,TW]
 have f13:u2.frozen? ⟨w.heap.size,13,none⟩=false:=by simp[World.frozen?,TW]
 have b2:(u2.setCell ⟨w.heap.size,13,none⟩ (.slice a2 m.a.dom.length c2)).heap[w.heap.size]?=some (.cells #[.bool g.o.aG,.string g.o.host,.int .i64 g.o.port,.bool g.proxy,.string g.user,.string g.pass,.int .i64 g.a.scheme,.string g.a.aM,.string g.a.bu,.string g.a.cz,.bool g.a.cD,.string g.a.eJ,.bool g.a.cR,.slice a2 m.a.dom.length c2,.int .i64 g.count,.slice a1 m.paths.length c1] 114 (0,0)):=cq TW 13 (.slice a2 m.a.dom.length c2)
 have b3:=(tL (w:=u2) (b:=w.heap.size) (g:=w.heap.size+1) ab 13 (.slice a2 m.a.dom.length c2)).trans Vx;have rZ:sG base u2 (one w.heap.size):=by
  rintro k rfl hk;exact⟨iL,fun c f e=>by rw[TW]at e;cases e⟩
 have kR:Fr (one w.heap.size) u2 (u2.setCell ⟨w.heap.size,13,none⟩ (.slice a2 m.a.dom.length c2)):=(ae (one w.heap.size) u2).setCell (p:=⟨w.heap.size,13,none⟩) (fun _=>rfl) _;have hs5:=hs4.fr kR rZ;have hd5:=Ut.fr kR rZ;have fU:=HF.gN (p:=⟨w.heap.size,13,none⟩) (ay _) (.slice a2 m.a.dom.length c2);have B2:=O b2;have B3:=O b3;clear b0 b1 TW Vx b2 b3 rZ kR hs4 Nf td Ut HF dE iz
 have mU:(#[.bool g.o.aG,.string g.o.host,.int .i64 g.o.port,.bool g.proxy,.string g.user,.string g.pass,.int .i64 g.a.scheme,.string g.a.aM,.string g.a.bu,.string g.a.cz,.bool g.a.cD,.string g.a.eJ,.bool g.a.cR,.slice a2 m.a.dom.length c2,.int .i64 g.count,.slice a1 m.paths.length c1]:bT).all (·.oneCell')=true:=b_ (GU (r:={g with a:={g.a with dom:=.slice a2 m.a.dom.length c2},paths:=.slice a1 m.paths.length c1}) rfl rfl)
 have Nl:=O mU;clear mU;go_wp2_with (first|((with_reducible refine dr 13 ?_);refine aI rfl 114 (.tmp 1) rfl w.heap.size rfl _ _ (0,0) _ B2.o underlying114 rfl af ?_)|((with_reducible refine cZ 114 ?_);refine aF rfl 114 (.tmp 2) (.tmp 13) rfl (w.heap.size+1) _ rfl rfl _ eY B3.o af rfl Nl.o ?_)|fail)
 have rZ:sG base (u2.setCell ⟨w.heap.size,13,none⟩ (.slice a2 m.a.dom.length c2)) (one (w.heap.size+1)):=by
  rintro k rfl hk;exact⟨ab,fun c f e=>by rw[B3.o]at e;cases e⟩
 generalize (u2.setCell ⟨w.heap.size,13,none⟩ (.slice a2 m.a.dom.length c2))=V at *
 have kR:Fr (one (w.heap.size+1)) V (V.setRow (w.heap.size+1) #[.bool g.o.aG,.string g.o.host,.int .i64 g.o.port,.bool g.proxy,.string g.user,.string g.pass,.int .i64 g.a.scheme,.string g.a.aM,.string g.a.bu,.string g.a.cz,.bool g.a.cD,.string g.a.eJ,.bool g.a.cR,.slice a2 m.a.dom.length c2,.int .i64 g.count,.slice a1 m.paths.length c1]):=(ae (one (w.heap.size+1)) V).setRow (fun _=>rfl) _
 refine aW (bw bD _ _ (w.heap.size+1) 114 #[.bool g.o.aG,.string g.o.host,.int .i64 g.o.port,.bool g.proxy,.string g.user,.string g.pass,.int .i64 g.a.scheme,.string g.a.aM,.string g.a.bu,.string g.a.cz,.bool g.a.cD,.string g.a.eJ,.bool g.a.cR,.slice a2 m.a.dom.length c2,.int .i64 g.count,.slice a1 m.paths.length c1] (0,0) _ rfl (a_ V (w.heap.size+1) _ _ _ _ B3.o) underlying114 rfl af) rfl ?_
 obtain⟨h1,h2,h3,h4,⟨k1,k2,k3,k4,k5,k6,k7,_⟩,h6,_⟩:=H.o;exact⟨{g with a:={g.a with dom:=.slice a2 m.a.dom.length c2},paths:=.slice a1 m.paths.length c1},rfl,⟨h1,h2,h3,h4,⟨k1,k2,k3,k4,k5,k6,k7,hd5.fr kR rZ⟩,h6,hs5.fr kR rZ⟩,GU rfl rfl,fU.setRow (fun h=>absurd h ab) _⟩
def aeC(b:Nat)(w:World)(bk cap:Nat)(p:aZ->Bool)(xs:dh)(i j:Value)(wr:World):Prop :=
 ∃(m n:Nat) (ys:dh),i=.int .i64 m/\j=.int .i64 n/\m<n/\n<=xs.length/\ys.length=xs.length/\OwnRows b 155 12 wr (.slice (some ⟨bk,0,none⟩) xs.length cap) ys /\
  ys.take m=(xs.take n).filter (fun x=>!p x)/\ys.drop n=xs.drop n/\Fr (one bk) w wr
theorem Ak{p:aZ->Bool}:∀ {l:dh} (i:Nat),l.any p=true->∃k x,l[k]?=some x/\p x=true/\(l.take k).any p=false/\mh p l i=((i+k:Nat):Int)
 |[],_,h=>by simp at h
 |a :: l,i,h=>by
  cases ha:p a
  ·rw[List.any_cons,ha,jU]at h;obtain⟨k,x,h1,h2,h3,h4⟩:=Ak (i+1) h;refine⟨k+1,x,by simpa using h1,h2,by simp[ha,h3],?_⟩;rw[mh,ha];simp only[cL,fa];rw[h4];congr 1;omega
  ·exact⟨0,a,rfl,ha,rfl,by rw[mh,ha];simp⟩
theorem Al{p:aZ->Bool}{l:dh}(h:l.any p=false):l.filter (fun x=>!p x)=l:=by
 rw[List.filter_eq_self];intro a ha;have:=fc.1 h a ha;simpa using this
theorem qk(b:Nat)(g:Nat)(cap:bT)(p:aZ->Bool)(v:Value)(xs:dh)(w:World)(eg:∀args w,(callFunc g args).run prog w=.ok (.enter g args) w)(hp:gT (own v) w g cap p xs)(hv:OwnRows b 155 12 w v xs) :
  aB 135 #[v,.func (.func g) #[] cap] w fun e w'=>∃a c,e=.returned (.slice a (xs.filter (fun x=>!p x)).length c)/\OwnRows b 155 12 w' (.slice a (xs.filter (fun x=>!p x)).length c) (xs.filter (fun x=>!p x))/\Fr (own v) w w'/\own (.slice a (xs.filter (fun x=>!p x)).length c)=own v:=by
 cases jv:xs.any p
 ·have r_:=O (kE (i:=0) jv);rw[Al jv];obtain⟨av,cv,fO⟩:=hv.form;subst fO;go_enter func135,ntmps135;go_wp2_with fail
  refine(uV g cap p _ xs w eg hp.none hv.at).mono ?_;rintro e w1⟨rfl,dk⟩;rw[r_.o];go_wp2;go_ret;exact⟨_,_,rfl,hv.fr dk (fun _ _ h=>h),dk.mono (fun _ _ h=>absurd h id),rfl⟩
 ·obtain⟨k0,x0,I7,Ej,vT,r_⟩:=Ak 0 jv;rw[bz]at r_;have JZ:=(List.getElem?_eq_some_iff.1 I7).1;obtain⟨bk,cp,Lw⟩:∃bk cp,v=.slice (some ⟨bk,0,none⟩) xs.length cp:=by
   rcases hv.2.2 with ⟨_,hn⟩|⟨bk,cp,cur,hv,_⟩
   ·omega
   ·exact⟨bk,cp,hv⟩
  subst Lw;obtain⟨CD,cur,sL,q1,q2,q3,q4,q5,q6⟩:=hv.open (g:=bk) rfl;cases sL;unfold maxLen at q4;have ef:=O hv.1;have Ek:=O (show xs.take k0=(xs.take (k0+1)).filter (fun x=>!p x)by
   rw[d_ I7,cG,Al vT];simp[Ej])
  have HP:=O hp;have Z0:=O r_;clear jv vT I7 Ej r_ q2 q5 q6 hp;go_enter func135,ntmps135;go_wp2_with fail
  refine(uV g cap p _ xs w eg HP.o.none hv.at).mono ?_;rintro e w1⟨rfl,dk⟩;rw[Z0.o];have FC:=hv.fr dk (fun _ _ h=>h);have J5:((k0:Int)== -1)=false:=by rw[aO];omega
  go_wp2;go_loopw[5,6] (aeC b w bk cp p xs) (fun _ j _=>xs.length-(intOf j).toNat)
  case atStart=>exact⟨k0,k0+1,xs,rfl,bg,ab,ab,rfl,FC,Ek.o,rfl,dk.mono (fun _ _ h=>absurd h id)⟩
  case round =>
   obtain⟨m,n,ys,rfl,rfl,hmn,hn,hlen,cW,rO,tz,cP⟩:=hrel;have HT:=O rO;have HD:=O tz;have j8:=O hlen;clear rO tz hlen;rw[<-j8.o]at cW;have sa:=cW.at;by_cases fe:n<xs.length
   ·rcases sa.2 with ⟨_,_,_,e,_⟩|⟨I8,of,c,hf,h1,h2,h3,h4⟩
    ·have hl:=j8.o;rw[e]at hl;simp at hl;omega
    ·cases hf;have dS:=O (List.getElem?_eq_getElem fe);have yO:ys[n]?=some xs[n]:=by
      have e:=ar (fun l:dh=>l[0]?) HD.o;simp only[List.getElem?_drop,Nat.add_zero]at e;rw[e,dS.o]
     have hcell:=h4 n _ yO;simp only[bz]at hcell;have iJ:=O (bO fe);generalize xs[n]=x at dS hcell iJ yO;have lM:=(ef.o x iJ.o).1;have mU:=O (ef.o x iJ.o).2;have jx:=fun W=>run_storeCells_new (P:=prog) W 155 #[.bool false,.string ⟨#[]⟩,.int .i64 0,.bool false,.string ⟨#[]⟩,.int .i64 0,.string ⟨#[]⟩,.string ⟨#[]⟩,.bool false,.string ⟨#[]⟩,.string ⟨#[]⟩,.int .i64 0] x (by rw[lM];rfl) mU.o
     have gX:Fr aS wr (wr.alloc (.cells x.toArray 155)):=(ae aS wr).alloc _;have fH:=O (HP.o x iJ.o (wr.alloc (.cells x.toArray 155)) ((cP.alloc _).mono (fun k _ h=>by have e:k=bk:=h;rw[e];rfl)));have Ja:=O (Bv lM);have jz:=cP.alloc (.cells x.toArray 155);have fG:=cW.fr gX (fun _ _ h=>h);have qB:(wr.alloc (.cells x.toArray 155)).heap[wr.heap.size]?=some (.cells x.toArray 155 (0,0)):=aC _ _
     have ui:=O qB;clear h4 yO qB gX;go_wp2_with (first|((with_reducible refine dr 25 ?_);refine aY rfl 155 (.tmp 24) rfl bk (n*12) rfl x _ hcell underlying155 rfl Ja.o ?_)|((with_reducible refine dr 27 ?_);refine aI rfl 155 (.tmp 7) rfl wr.heap.size rfl _ x.toArray (0,0) _ ui.o underlying155 rfl (by rw[aX];exact Ja.o) ?_)|fail)
     have hlw:wr.heap.size<(wr.alloc (.cells x.toArray 155)).heap.size:=aR;clear jx hcell;generalize wr.alloc (.cells x.toArray 155)=W2 at *
     refine fH.o.mono ?_;rintro e w3⟨rfl,iz⟩;have qR:=jz.trans (iz.mono (fun _ _ h=>absurd h id));have fC:=fG.fr iz (fun _ _ h=>h);have tO:=O (iz.keep ui.o id);have Oc:=O j8.o;cases qU:p x
     ·have Yt:=O (fC.there (g:=bk) (cap:=cp) (by rw[j8.o]) (o:=m*12) (n:=x.toArray.size) (by
       have hmc:(m+1)*12<=cp*12:=bR _ ab;rw[aX,lM];omega))
      have fg:=fC.store (i:=m) (y:=x) (by rw[j8.o];omega) lM mU.o (g:=bk) rfl;rw[j8.o]at fg;have oI:=qR.step (fL (ae (one bk) w3) (fun _=>rfl) x (m*12)) (fun _ _ h=>h)
      go_wp2_with (first|((with_reducible refine dr 32 ?_);refine aI rfl 155 (.tmp 7) rfl wr.heap.size rfl _ x.toArray (0,0) _ tO.o underlying155 rfl (by rw[aX];exact Ja.o) ?_)|((with_reducible refine cZ 155 ?_);refine iw rfl 155 (.tmp 33) (.tmp 32) rfl bk (m*12) x.toArray rfl rfl Yt.o (by rw[aX];exact Ja.o) (b_ mU.o) ?_)|fail)
      go_roundw
      case rel =>
       refine⟨m+1,n+1,ys.set m x,bg,bg,ab,ab,by rw[en];exact Oc.o,fg,?_,?_,oI⟩
       ·rw[d_ (l:=ys.set m x) (List.getElem?_set_self (by rw[Oc.o];omega)),gA (ay m),d_ dS.o,cG,HT.o];simp[qU]
       ·rw[gB ab];have e:=ar (List.drop 1) HD.o;simpa[eD]using e
      case measure=>simp[intOf];omega
     ·rw[j8.o]at fC;go_wp2_with fail
      go_roundw
      case rel =>
       refine⟨m,n+1,ys,rfl,bg,ab,ab,Oc.o,fC,?_,?_,qR⟩
       ·rw[d_ dS.o,cG,HT.o];simp[qU]
       ·have e:=ar (List.drop 1) HD.o;simpa[eD]using e
      case measure=>simp[intOf];omega
   ·have se:n=xs.length:=ab;subst se;have fl:=O (show ys.take m=xs.filter (fun x=>!p x)by have h:=HT.o;rw[aD (ay _)]at h;exact h);have tu:(ys.take m).length=m:=by rw[aJ,j8.o];omega
    have Aa:=O (show(xs.filter (fun x=>!p x)).length=m by rw[<-fl.o];exact tu);have hcut:=cW.cut (i:=m) (by rw[j8.o];omega) (g:=bk) (cap:=cp) (by rw[j8.o]);have hle:(xs.length-m)*12+m*12<=cp*12:=by rw[<-dI];exact bR _ ab
    have CJ:(Builtin.zeroCells FV (xs.length-m)).toList.length=(xs.length-m)*12:=by simp[Builtin.zeroCells]
    have xY:=fun ty=>jM (P:=prog) wr 90 155 ty FV underlying90 (fun w=>af) ag QF bk (m*12) (xs.length-m) (cp-m) ab (by
     have:=cW.there (g:=bk) (cap:=cp) (by rw[j8.o]) (o:=m*12) (n:=(xs.length-m)*12) ab;exact this)
    have yP:=hcut.behind (o:=m*12) (vs:=(Builtin.zeroCells FV (xs.length-m)).toList) (by rw[tu];exact ay _) (g:=bk) (cap:=cp) (by rw[tu]) (by rw[CJ];omega);have oI:=cP.step (fL (ae (one bk) wr) (fun _=>rfl) (Builtin.zeroCells FV (xs.length-m)).toList (m*12)) (fun _ _ h=>h);clear cW sa hcut CJ tu hle j8;go_wp2_with fail
    go_ret;rw[Aa.o, <-fl.o];exact⟨_,_,rfl,yP,oI.mono (fun k _ h=>by have e:k=bk:=h;rw[e];rfl),rfl⟩
theorem aeD:∃i0:TypeInfo,prog.info? 155=some i0/\i0.size=12:=by
 have h:(prog.info? 155).map (·.size)=some 12:=af;cases hq:prog.info? 155 with
 |none=>rw[hq]at h;cases h
 |some i=>rw[hq]at h;exact⟨i,rfl,by simpa using h⟩
theorem R_(b:Nat)(bk cp i j:Nat)(xs:dh)(w:World)(hv:OwnRows b 155 12 w (.slice (some ⟨bk,0,none⟩) xs.length cp) xs)(Rl:i<j)(hj:j<=xs.length) :
  aB 140 #[.slice (some ⟨bk,0,none⟩) xs.length cp,.int .i64 i,.int .i64 j] w fun e w'=>e=.returned (.slice (some ⟨bk,0,none⟩) (i+(xs.length-j)) cp)/\OwnRows b 155 12 w' (.slice (some ⟨bk,0,none⟩) (i+(xs.length-j)) cp) (xs.take i++xs.drop j)/\Fr (one bk) w w':=by
 obtain⟨i0,qN,ll⟩:=aeD;obtain⟨CD,cur,sL,q1,q2,q3,q4,q5,q6⟩:=hv.open (g:=bk) rfl;cases sL;unfold maxLen at q4;have dS:=hv.at;have ef:=hv.1;obtain⟨news,kT⟩:∃news,news=(xs.drop j).flatten:=⟨_,rfl⟩;have hdr:∀x∈xs.drop j,x.length=12/\∀u∈x,u.oneCell'=true:=fun x hx=>ef x (eE hx);have hlen:news.length=(xs.length-j)*12:=by rw[kT,gJ (fun x hx=>(hdr x hx).1),bM]
 obtain⟨A,hA,Od⟩:∃A:Addr,(if cp=j then some (⟨bk,0,none⟩:Addr)else some ⟨bk,j*12,none⟩)=some A/\Hid (∀t u,news[t]?=some u->w.drew.cell? (A.add t)=some u):=by
  by_cases h:cp=j
  ·refine⟨⟨bk,0,none⟩,by simp[h],fun t u hu=>?_⟩
   have h0:news.length=0:=by rw[hlen];have:xs.length-j=0:=by omega
                             rw[this,ir]
   rw[dK.1 h0]at hu;simp at hu
  ·refine⟨⟨bk,j*12,none⟩,by simp[h],fun t u hu=>?_⟩;have ht:t<(xs.length-j)*12:=by
    have:=(List.getElem?_eq_some_iff.1 hu).1;omega
   have nC:xs.flatten[j*12+t]?=some u:=by
    have e:xs.flatten=(xs.take j).flatten++(xs.drop j).flatten:=by rw[<-ey,fS]
    have hl:(xs.take j).flatten.length=j*12:=by rw[gJ (fun x hx=>(ef x (ed hx)).1),aJ,dP hj]
    rw[e,List.getElem?_append_right ab,hl,show j*12+t-j*12=t from ab, <-kT];exact hu
   have hjt:j*12+t<xs.length*12:=by
    have:(xs.length-j)*12+j*12=xs.length*12:=by rw[<-dI];congr 1;omega
    omega
   rw[<-q6,List.getElem?_take_of_lt hjt]at nC;have Ab:cur[j*12+t]?=some u:=by simpa using nC
   have ea:(Addr.add ⟨bk,j*12,none⟩ t)=⟨bk,j*12+t,none⟩:=by unfold Addr.add;split<;>simp_all
   rw[ea];show w.cell? _=some u;simp[World.cell?,q2,Ab]
 have s1:=O hlen;have s2:=O (show∀u∈news,u.oneCell'=true by
  intro u hu;rw[kT]at hu;obtain⟨x,hx,GX⟩:=fR.1 hu;exact(hdr x hx).2 u GX)
 have s3:=O (show∀t,t<news.length->(w.drew.cell? ⟨bk,0+i*12+t,none⟩).isSome=true/\w.drew.frozen? ⟨bk,0+i*12+t,none⟩=false by
  intro t ht;rw[bz];have hle:i*12+(xs.length-j)*12<=cp*12:=by rw[<-dI];exact bR _ ab
  have:=hv.there (g:=bk) (cap:=cp) rfl (o:=i*12) (n:=(xs.length-j)*12) hle t ab;exact this)
 have VA:OwnRows b 155 12 w.drew (.slice (some ⟨bk,0,none⟩) xs.length cp) xs:=hv;have qI:=VA.DD (i:=i) (ys:=xs.drop j) ab hdr (g:=bk) (cap:=cp) rfl (by rw[bM];omega);rw[bM, <-kT]at qI;have yQ:Fr (one bk) w (w.drew.setCells bk (i*12) news):=((ae (one bk) w).drew).setCells (fun _=>rfl) _ _;obtain⟨W1,CH⟩:∃W1,W1=w.drew.setCells bk (0+i*12) news:=⟨_,rfl⟩;have HW:=O CH;rw[bz]at CH;rw[<-CH]at qI yQ
 have se:(xs.take i++xs.drop j).length=i+(xs.length-j):=by rw[aK,aJ,bM];omega
 have hm:i+(xs.length-j)<xs.length:=ab;have CJ:(Builtin.zeroCells FV (xs.length-(i+(xs.length-j)))).toList.length=(xs.length-(i+(xs.length-j)))*12:=by simp[Builtin.zeroCells]
 have hle:(i+(xs.length-j))*12+(xs.length-(i+(xs.length-j)))*12<=cp*12:=by rw[<-dI];exact bR _ ab
 have xY:=fun ty=>jM (P:=prog) W1 90 155 ty FV underlying90 (fun w=>af) ag QF bk ((i+(xs.length-j))*12) (xs.length-(i+(xs.length-j))) (cp-(i+(xs.length-j))) ab (by
  have:=qI.there (g:=bk) (cap:=cp) (by rw[se]) (o:=(i+(xs.length-j))*12) (n:=(xs.length-(i+(xs.length-j)))*12) hle;exact this)
 have yP:=qI.behind (o:=(i+(xs.length-j))*12) (vs:=(Builtin.zeroCells FV (xs.length-(i+(xs.length-j)))).toList) (by rw[se];exact ay _) (g:=bk) (cap:=cp) (by rw[se]) (by rw[CJ];omega);have oI:=yQ.step (fL (ae (one bk) W1) (fun _=>rfl) (Builtin.zeroCells FV (xs.length-(i+(xs.length-j)))).toList ((i+(xs.length-j))*12)) (fun _ _ h=>h);have hne:((i:Int)==(j:Int))=false:=by rw[aO];omega
 have aeg:i<=cp:=ab;have aeh:j<=cp:=ab;have HA:=O hA;clear CH qI VA yQ kT hlen hdr ef dS se CJ hle q2 q5 q6 hv;go_enter func140,ntmps140;go_wp2_with fail
 have hA:=HA.o;go_region_law (refine step_append_room rfl (.tmp 22) (.tmp 25) 90 rfl 155 i0 12 underlying90 qN ll bk 0 i cp (by simp[Act.eval,Act.put]) A (xs.length-j) (cp-j) news (by simp[Act.eval,Act.put]) s1.o Od.out s2.o ab s3.o ?_;rw[<-HW.o])
 all_goals
  go_wp2_with fail
  go_ret;exact⟨rfl,yP,oI⟩
theorem aac:(prog.info? 155).map (fun i=>(i.zero,i.size,i.bytes))=some (some (.agg #[.bool false,.string ⟨#[]⟩,.int .i64 0,.bool false,.string ⟨#[]⟩,.int .i64 0,.string ⟨#[]⟩,.string ⟨#[]⟩,.bool false,.string ⟨#[]⟩,.string ⟨#[]⟩,.int .i64 0]),12,144):=af
theorem aad(v:Value)(xs:dh)(w:World)(h:dZ 12 w v xs)(hl:xs.length<=1000000000) :
  aB 200 #[v] w fun e w'=>∃v',e=.returned v'/\OwnRows w.heap.size 155 12 w' v' xs/\Fr aS w w':=by
 obtain⟨a,c,hv⟩:=h.form;subst hv;have q22:∀(w:World) (a:eO) (n c n' c':Nat),(binOp .eql 90 (.slice a n c) (.slice none n' c')).run prog w=.ok (.bool a.isNone) w:=fun w a n c n' c'=>Lib.run_eql_slice_nil w _ _ a n c n' c' underlying90;cases a with
 |none =>
  obtain⟨rfl,rfl⟩:xs=[]/\c=0:=by
   rcases h.2 with ⟨a',c',hv,hs,hc⟩|⟨bk,o',c',hf,_⟩
   ·injection hv with e1 e2 e3
    exact⟨hs,e3.trans (hc e1.symm)⟩
   ·injection hf with e1;cases e1
  go_enter func200,ntmps200;go_wp2;go_ret;exact⟨_,rfl,dB _ _ _ _,ae _ _⟩
 |some ad =>
  have HX:=h.1;have HC:=O (show∀j u,xs.flatten[j]?=some u->w.cell? (ad.add j)=some u from fun j u hj=>by
   rcases h.2 with ⟨_,_,_,e,_⟩|⟨bk,o',c',hf,g1,g2,g3,g4⟩
   ·subst e;simp at hj
   ·cases hf;have Aa:xs.flatten.length=xs.length*12:=gJ (fun x hx=>(HX x hx).1);have Zk:=(List.getElem?_eq_some_iff.1 hj).1;have hd:j/12<xs.length:=ab;have hm:j%12<12:=ab;have hx:(xs[j/12]).length=12:=(HX _ (bO hd)).1;have e1:=rN (k:=12) (xs:=xs) (fun x hx=>(HX x hx).1) (j:=j/12) (List.getElem?_eq_getElem hd) (i:=j%12) (List.getElem?_eq_getElem (by rw[hx];exact hm));rw[Nat.div_add_mod']at e1
    rw[e1]at hj;cases hj;have:=g4 (j/12) _ (List.getElem?_eq_getElem hd) (j%12) _ (List.getElem?_eq_getElem (by rw[hx];exact hm));have ea:(Addr.add ⟨bk,o',none⟩ j)=⟨bk,o'+j,none⟩:=by unfold Addr.add;split<;>simp_all
    rw[ea, <-this]
    congr 2
    omega)
  have HF:=O (show xs.flatten.length=xs.length*12 from gJ (fun x hx=>(HX x hx).1));have VX:=O HX;obtain⟨i0,hi,pD,ll,lF⟩:=info_parts aac;clear HX h;go_enter func200,ntmps200
  go_wp2_with (at_builtin;refine wpList_append_own _ rfl _ _ 90 rfl w.heap.size 155 i0 (.agg #[.bool false,.string ⟨#[]⟩,.int .i64 0,.bool false,.string ⟨#[]⟩,.int .i64 0,.string ⟨#[]⟩,.string ⟨#[]⟩,.bool false,.string ⟨#[]⟩,.string ⟨#[]⟩,.int .i64 0]) 12 144 underlying90 hi pD ll lF rfl ag _ _ _ rfl (World.ownsRow_made w #[] 0 (ay _) (aL _) rfl) ad xs.length c xs.flatten rfl HF.o ?qc2 ?qc3 ?qc4 ?qc5 ?qc6 ?_)
  case qc2 =>
   intro j u hj;exact Lib.cell?_alloc_some _ (HC.o j u hj)
  case qc3 =>
   intro u hu;obtain⟨x,hx,GX⟩:=fR.1 hu;exact(VX.o x hx).2 u GX
  case qc4=>unfold maxLen;omega
  case qc5=>omega
  case qc6=>simp
  intro v' w1 cW jJ KJ;go_wp2;go_ret;refine⟨v',rfl,⟨VX.o,by simpa using cW⟩,fx (((Below.refl _ w).alloc (ay _) _).grown jJ aR (by intro k hk;simp[Value.ownBlock]at hk;omega))⟩
theorem aaT:(prog.info? 97).map (fun i=>(i.zero,i.size,i.bytes))=some (some (.agg #[.bool false,.string ⟨#[]⟩,.int .i64 0,.int .i64 0]),4,40):=af
theorem QR(v:Value)(xs:dh)(w:World)(h:dZ 4 w v xs)(hl:xs.length<=1000000000) :
  aB 81 #[v] w fun e w'=>∃v',e=.returned v'/\OwnRows w.heap.size 97 4 w' v' xs/\Fr aS w w':=by
 obtain⟨a,c,hv⟩:=h.form;subst hv;have q22:∀(w:World) (a:eO) (n c n' c':Nat),(binOp .eql 81 (.slice a n c) (.slice none n' c')).run prog w=.ok (.bool a.isNone) w:=fun w a n c n' c'=>Lib.run_eql_slice_nil w _ _ a n c n' c' underlying81;cases a with
 |none =>
  obtain⟨rfl,rfl⟩:xs=[]/\c=0:=by
   rcases h.2 with ⟨a',c',hv,hs,hc⟩|⟨bk,o',c',hf,_⟩
   ·injection hv with e1 e2 e3
    exact⟨hs,e3.trans (hc e1.symm)⟩
   ·injection hf with e1;cases e1
  go_enter func81,ntmps81;go_wp2;go_ret;exact⟨_,rfl,dB _ _ _ _,ae _ _⟩
 |some ad =>
  have HX:=h.1;have HC:=O (show∀j u,xs.flatten[j]?=some u->w.cell? (ad.add j)=some u from fun j u hj=>by
   rcases h.2 with ⟨_,_,_,e,_⟩|⟨bk,o',c',hf,g1,g2,g3,g4⟩
   ·subst e;simp at hj
   ·cases hf;have Aa:xs.flatten.length=xs.length*4:=gJ (fun x hx=>(HX x hx).1);have Zk:=(List.getElem?_eq_some_iff.1 hj).1;have hd:j/4<xs.length:=ab;have hm:j%4<4:=ab;have hx:(xs[j/4]).length=4:=(HX _ (bO hd)).1;have e1:=rN (k:=4) (xs:=xs) (fun x hx=>(HX x hx).1) (j:=j/4) (List.getElem?_eq_getElem hd) (i:=j%4) (List.getElem?_eq_getElem (by rw[hx];exact hm));rw[Nat.div_add_mod']at e1;rw[e1]at hj
    cases hj;have:=g4 (j/4) _ (List.getElem?_eq_getElem hd) (j%4) _ (List.getElem?_eq_getElem (by rw[hx];exact hm));have ea:(Addr.add ⟨bk,o',none⟩ j)=⟨bk,o'+j,none⟩:=by unfold Addr.add;split<;>simp_all
    rw[ea, <-this]
    congr 2
    omega)
  have HF:=O (show xs.flatten.length=xs.length*4 from gJ (fun x hx=>(HX x hx).1));have VX:=O HX;obtain⟨i0,hi,pD,ll,lF⟩:=info_parts aaT;clear HX h;go_enter func81,ntmps81
  go_wp2_with (at_builtin;refine wpList_append_own _ rfl _ _ 81 rfl w.heap.size 97 i0 (.agg #[.bool false,.string ⟨#[]⟩,.int .i64 0,.int .i64 0]) 4 40 underlying81 hi pD ll lF rfl ag _ _ _ rfl (World.ownsRow_made w #[] 0 (ay _) (aL _) rfl) ad xs.length c xs.flatten rfl HF.o ?qc2 ?qc3 ?qc4 ?qc5 ?qc6 ?_)
  case qc2 =>
   intro j u hj;exact Lib.cell?_alloc_some _ (HC.o j u hj)
  case qc3 =>
   intro u hu;obtain⟨x,hx,GX⟩:=fR.1 hu;exact(VX.o x hx).2 u GX
  case qc4=>unfold maxLen;omega
  case qc5=>omega
  case qc6=>simp
  intro v' w1 cW jJ KJ;go_wp2;go_ret;refine⟨v',rfl,⟨VX.o,by simpa using cW⟩,fx (((Below.refl _ w).alloc (ay _) _).grown jJ aR (by intro k hk;simp[Value.ownBlock]at hk;omega))⟩
def agf(w:World)(p:aZ->Bool)(xs:dh)(i:Value)(wr:World):Prop :=
 ∃k:Nat,k<=xs.length/\i=.int .i64 k/\(xs.take k).any p=false/\Fr aS w wr
theorem JO(g:Nat)(cap:bT)(p:aZ->Bool)(v:Value)(xs:dh)(w:World)(eg:∀args w,(callFunc g args).run prog w=.ok (.enter g args) w)(hp:gT aS w g cap p xs)(hv:dZ 24 w v xs) :
  aB 44 #[v,.func (.func g) #[] cap] w fun e w'=>e=.returned (.int .i64 (mh p xs 0))/\Fr aS w w':=by
 obtain⟨av,cv,fO⟩:=hv.form;subst fO;have ef:=O hv.1;go_enter func44,ntmps44;go_wp2;go_loopw[8] (agf w p xs) (fun i _=>xs.length-(intOf i).toNat)
 case atStart=>exact⟨0,aL _,rfl,rfl,ae _ _⟩
 case round =>
  obtain⟨k,hk,rfl,hn,cP⟩:=hrel;have HN:=O hn;clear hn;by_cases fe:k<xs.length
  ·rcases(hv.fN cP).2 with ⟨_,_,_,e,_⟩|⟨bk,of,c,hf,h1,h2,h3,h4⟩
   ·rw[e]at fe;exact absurd fe (bV _)
   ·cases hf;unfold maxLen at h2;have dS:=O (List.getElem?_eq_getElem fe);have hcell:=h4 k _ dS.o;have iJ:=O (bO fe);generalize xs[k]=x at dS hcell iJ;have fH:=O (hp x iJ.o wr cP);have lM:=(ef.o x iJ.o).1;clear h4;cases qU:p x
    ·have qt:=O (any_take_succ dS.o HN.o qU);go_wp2_with (first|((with_reducible refine dr 15 ?_);refine aY rfl 66 (.tmp 14) rfl bk (of+k*24) rfl x _ hcell underlying66 rfl (XX lM) ?_)|fail)
     refine fH.o.mono ?_;rintro e w1⟨rfl,dk⟩;rw[qU];go_wp2;go_roundw
     case rel=>exact⟨k+1,ab,bg,qt.o,cP.trans dk⟩
     case measure=>simp[intOf];omega
    ·have fl:=O (o9 (i:=0) dS.o qU HN.o);go_wp2_with (first|((with_reducible refine dr 15 ?_);refine aY rfl 66 (.tmp 14) rfl bk (of+k*24) rfl x _ hcell underlying66 rfl (XX lM) ?_)|fail)
     refine fH.o.mono ?_;rintro e w1⟨rfl,dk⟩;rw[qU];go_wp2;go_ret;rw[fl.o,bz];exact⟨rfl,cP.trans dk⟩
  ·have fl:=O (show mh p xs 0= -1 from kE (by have h:=HN.o;rw[aD ab]at h;exact h));go_wp2;go_ret;rw[fl.o];exact⟨rfl,cP⟩
theorem CQ(g:Nat)(cap:bT)(p:aZ->Bool)(v:Value)(xs:dh)(w:World)(eg:∀args w,(callFunc g args).run prog w=.ok (.enter g args) w)(hp:gT aS w g cap p xs)(hv:dZ 24 w v xs) :
  aB 25 #[v,.func (.func g) #[] cap] w fun e w'=>e=.returned (.bool (xs.any p))/\Fr aS w w':=by
 have hb:=O (rW p xs 0);go_enter func25,ntmps25;go_wp2_with fail
 refine(JO g cap p v xs w eg hp hv).mono ?_;rintro e w1⟨rfl,dk⟩;go_wp2;go_ret;exact⟨fF hb.o,dk⟩
def agh(w:World)(p:aZ->Bool)(xs:dh)(i:Value)(wr:World):Prop :=
 ∃k:Nat,k<=xs.length/\i=.int .i64 k/\(xs.take k).any p=false/\Fr aS w wr
theorem JP(g:Nat)(cap:bT)(p:aZ->Bool)(v:Value)(xs:dh)(w:World)(eg:∀args w,(callFunc g args).run prog w=.ok (.enter g args) w)(hp:gT aS w g cap p xs)(hv:dZ 22 w v xs) :
  aB 82 #[v,.func (.func g) #[] cap] w fun e w'=>e=.returned (.int .i64 (mh p xs 0))/\Fr aS w w':=by
 obtain⟨av,cv,fO⟩:=hv.form;subst fO;have ef:=O hv.1;go_enter func82,ntmps82;go_wp2;go_loopw[8] (agh w p xs) (fun i _=>xs.length-(intOf i).toNat)
 case atStart=>exact⟨0,aL _,rfl,rfl,ae _ _⟩
 case round =>
  obtain⟨k,hk,rfl,hn,cP⟩:=hrel;have HN:=O hn;clear hn;by_cases fe:k<xs.length
  ·rcases(hv.fN cP).2 with ⟨_,_,_,e,_⟩|⟨bk,of,c,hf,h1,h2,h3,h4⟩
   ·rw[e]at fe;exact absurd fe (bV _)
   ·cases hf;unfold maxLen at h2;have dS:=O (List.getElem?_eq_getElem fe);have hcell:=h4 k _ dS.o;have iJ:=O (bO fe);generalize xs[k]=x at dS hcell iJ;have fH:=O (hp x iJ.o wr cP);have lM:=(ef.o x iJ.o).1;clear h4;cases qU:p x
    ·have qt:=O (any_take_succ dS.o HN.o qU);go_wp2_with (first|((with_reducible refine dr 15 ?_);refine aY rfl 41 (.tmp 14) rfl bk (of+k*22) rfl x _ hcell underlying41 rfl (XU lM) ?_)|fail)
     refine fH.o.mono ?_;rintro e w1⟨rfl,dk⟩;rw[qU];go_wp2;go_roundw
     case rel=>exact⟨k+1,ab,bg,qt.o,cP.trans dk⟩
     case measure=>simp[intOf];omega
    ·have fl:=O (o9 (i:=0) dS.o qU HN.o);go_wp2_with (first|((with_reducible refine dr 15 ?_);refine aY rfl 41 (.tmp 14) rfl bk (of+k*22) rfl x _ hcell underlying41 rfl (XU lM) ?_)|fail)
     refine fH.o.mono ?_;rintro e w1⟨rfl,dk⟩;rw[qU];go_wp2;go_ret;rw[fl.o,bz];exact⟨rfl,cP.trans dk⟩
  ·have fl:=O (show mh p xs 0= -1 from kE (by have h:=HN.o;rw[aD ab]at h;exact h));go_wp2;go_ret;rw[fl.o];exact⟨rfl,cP⟩
theorem CR(g:Nat)(cap:bT)(p:aZ->Bool)(v:Value)(xs:dh)(w:World)(eg:∀args w,(callFunc g args).run prog w=.ok (.enter g args) w)(hp:gT aS w g cap p xs)(hv:dZ 22 w v xs) :
  aB 39 #[v,.func (.func g) #[] cap] w fun e w'=>e=.returned (.bool (xs.any p))/\Fr aS w w':=by
 have hb:=O (rW p xs 0);go_enter func39,ntmps39;go_wp2_with fail
 refine(JP g cap p v xs w eg hp hv).mono ?_;rintro e w1⟨rfl,dk⟩;go_wp2;go_ret;exact⟨fF hb.o,dk⟩
def bA(l:Bs):aj:=⟨l.toArray⟩
theorem fZ(l:Bs):(bA l).data.toList=l:=by unfold bA;simp
theorem Uy(s:aj):bA s.data.toList=s:=by unfold bA;simp
def kB(ps:List jF)(name:Bs):Option Bs:=(ps.find? fun p=>dL p.1 name).map (·.2)
def wB:Bs:=[114,101,97,108,109]
def Ir:Bs:=[98,97,115,105,99]
def CX:Bs:=[100,105,103,101,115,116]
def zy:Bs:=[97,108,103,111,114,105,116,104,109]
def yv:Bs:=[77,68,53]
def Iu:Bs:=[83,72,65,45,50,53,54]
def zz:Bs:=[45,115,101,115,115]
def wC:Bs:=[110,111,110,99,101]
def KC:Bs:=[113,111,112]
def mz:Bs:=[97,117,116,104]
def qz:Bs:=[97,117,116,104,45,105,110,116]
def mA:Bs:=[111,112,97,113,117,101]
def Bf:Bs:=[115,116,97,108,101]
def mf:Bs:=[116,114,117,101]
def rf:Bs:=[100,111,109,97,105,110]
def Uz(s:Bs):Option (Int×Bool) :=
 if dL s yv then some (2,false)
 else if dL s (yv++zz)then some (2,true)
 else if dL s Iu then some (3,false)
 else if dL s (Iu++zz)then some (3,true)
 else none
def P1(l:List Bs):Option Bs :=
 if l.any (fun w=>dL w mz)then some mz else if l.any (fun w=>dL w qz)then some qz else none
def UA(q:Bs):Option Bs :=
 match ia q with
 | .error _=>none
 | .ok l=>if 40<l.length then none else P1 l
def UB(ps:List jF):Option Bs :=
 match kB ps KC with
 |none=>some []
 |some q=>UA q
def Iv(d:Bs):List Bs:=((eh 32 d).filter fun p=>Nx 47 p).map oV
def nr(x:nA):Option (fQ bE) :=
 match kB x.params wB with
 |none=>none
 |some aM =>
  if dL x.scheme Ir then some ⟨1,bA aM,bA [],bA [],false,bA [],false,[]⟩else
  match Uz ((kB x.params zy).getD yv)with
  |none=>none
  |some (k,cD) =>
   if !dL x.scheme CX then none else
   match kB x.params wC with
   |none=>none
   |some bu =>
    match UB x.params with
    |none=>none
    |some q=>some ⟨k,bA aM,bA bu,bA ((kB x.params mA).getD []),cD,bA q,dL ((kB x.params Bf).getD []) mf,(Iv ((kB x.params rf).getD [])).map bA⟩
def P2:fQ bE:=⟨0,bA [],bA [],bA [],false,bA [],false,[]⟩
def pW(a:fQ bE)(x:nA):fQ bE :=
 match nr x with
 |none=>a
 |some b=>if a.scheme<b.scheme then b else a
def ju(l:List nA):fQ bE:=l.foldl pW P2
theorem Nz(l:List nA)(x:nA):ju (l++[x])=pW (ju l) x:=by simp[ju]
