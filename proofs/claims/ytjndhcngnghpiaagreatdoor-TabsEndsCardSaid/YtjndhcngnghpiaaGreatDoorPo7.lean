/- Lemmas for the law's walk. -/
import Derived.Test.YtjndhcngnghpiaaGreatDoorPo6
set_option maxRecDepth 100000
set_option maxHeartbeats 16000000
set_option linter.unusedSimpArgs false
namespace Go.Proofs.YtjndhcngnghpiaaGreatDoor
open Go.Proofs.Tryz
open Go.RowKit
variable {w W wc A B:World} {g k:Nat} {laid:List (String×DataW Unit)} {x:ai} {pre:List ai}
theorem Oy{P:Program}{W:World}{x:String×DataW Unit}:∀ {laid:List (String×DataW Unit)},laidMet P laid W->x∈laid->∃r,laidMet P (x :: r) W
 |y :: l,h,hm=>by
  rcases bu.1 hm with rfl|hm
  ·exact⟨l,h⟩
  ·exact Oy (laidMet.tail h) hm
theorem rm{P:Program}{W:World}{laid:List (String×DataW Unit)}{name:String}{k:IntKind}{zs:List Int}{g:Nat}{t e:TypeId}{n:Nat}
  (h:laidMet P laid W)(hm:(name,Lib.tabData k zs)∈laid)
  (hg:P.globalNamed name=some g)(RI:(P.globals[g]?).map (·.type)=some t)(ht:P.underlying t=some (.array n e))(he:P.underlying e=some (.int k))(hce:P.cellsOf e=1)(hct:P.cellsOf t=n):Lib.TabIs P W name k zs:=by
 obtain⟨r,hr⟩:=Oy h hm;exact Lib.tabIs_of_head hg RI ht he hce hct hr
theorem XJ{i:Nat}{v:Value}(h:w.cell? ⟨g,i,none⟩=some v):g<w.heap.size:=by
 cases hb:w.heap[g]? with
 |none=>simp[World.cell?,hb]at h
 |some o=>exact bg hb
theorem vK{P:Program}{name:String}{k:IntKind}{zs:List Int}(hT:Lib.TabIs P W name k zs)(hg:P.globalNamed name=some g)(hz:0<zs.length):oC W g k zs:=by
 have hc:∀(i:Nat) z,zs[i]?=some z->W.cell? ⟨g,i,none⟩=some (.int k z):=fun i z hi=>by
  obtain⟨hl,he⟩:=List.getElem?_eq_some_iff.1 hi;rw[hT.cell hg i hl,List.getD_eq_getElem?_getD,hi];rfl
 exact⟨XJ (hc 0 _ (List.getElem?_eq_getElem hz)),hc⟩
theorem JG(h:laidMet prog laid W)(hm:("gatepost/api.Sines",Lib.tabData .u32 CS)∈laid/\("gatepost/sum.turns",Lib.tabData .i64 (oB.map Int.ofNat))∈laid):tZ W :=
 ⟨vK (rm h hm.1 (g:=3) af af underlying295 underlying292 af af) af ag,
  vK (rm h hm.2 (g:=4) af af underlying301 underlying3 af af) af ag⟩
theorem JH(h:laidMet prog laid W)(hm:("gatepost/api.Roots",Lib.tabData .u32 CW)∈laid/\("gatepost/api.Begin",Lib.tabData .u32 Tf)∈laid):t_ W :=
 ⟨vK (rm h hm.1 (g:=2) af af underlying295 underlying292 af af) af ag,
  vK (rm h hm.2 (g:=1) af af underlying293 underlying292 af af) af ag⟩
def PZ(c:UInt8):Bool:=c<32||c==127
def lh(s:ai):Bool:=s.data.toList.all fun c=>!PZ c
def C4(user pass:ai):ai:=⟨([66,97,115,105,99,32]++uU (user.data.toList++[58]++pass.data.toList)).toArray⟩
def mJ(user pass:ai)(e:Ending):Prop :=
 if 0<=Lib.indexByte user.data.toList 58 then e=.returned (.tuple #[.string ⟨#[]⟩,.iface 82 (.int .i64 1)])
 else if lh user&&lh pass then e=.returned (.tuple #[.string (C4 user pass),.nilIface])
 else e=.returned (.tuple #[.string ⟨#[]⟩,.iface 82 (.int .i64 3)])
def afO(user pass:ai)(w:World)(i:Value)(wr:World):Prop:=∃k:Nat,k<=2/\i=.int .i64 k/\(0<k->lh user=true)/\(1<k->lh pass=true)/\Fr aW w wr
def alz(s:ai)(w:World)(i:Value)(wr:World):Prop:=∃k:Nat,k<=s.size/\i=.int .i64 k/\(s.data.toList.take k).all (fun c=>!PZ c)=true/\Fr aW w wr
theorem GM{a b:ai}(h:[a,b][k]?=some x):k=0/\x=a\/k=1/\x=b:=by
 match k,h with
 |0,h=>exact .inl ⟨rfl,by simpa using h.symm⟩
 |1,h=>exact .inr ⟨rfl,by simpa using h.symm⟩
 |k+2,h=>simp at h
theorem Fj(user pass:ai)(w:World)(hu:user.size<=100000)(hp:pass.size<=100000) :
  aC 71 #[.agg #[.string user,.string pass]] w fun e w'=>mJ user pass e/\Fr aW w w':=by
 have j6:Fr aW w (w.alloc (.cells #[.string user,.string pass] 31)):=(ae aW w).alloc _;have pI:=aB w (.cells #[.string user,.string pass] 31);by_cases hc:0<=Lib.indexByte user.data.toList 58
 ·have HP:=O (show∀e,mJ user pass e↔e=.returned (.tuple #[.string ⟨#[]⟩,.iface 82 (.int .i64 1)])from fun e=>by unfold mJ;rw[aA hc]);have hd:decide (0<=Lib.indexByte user.data.toList 58)=true:=bK hc;go_enter func71,ntmps71;go_wp2_with fail
  refine(strings_Contains_one user 58 _).mono ?_;rintro e u1⟨rfl,rfl⟩;rw[hd];go_wp2;go_ret2;exact⟨(HP.o _).2 rfl,j6⟩
 ·have hd:decide (0<=Lib.indexByte user.data.toList 58)=false:=bB hc;have Bx:=O (show(lh user&&lh pass)=false->mJ user pass (.returned (.tuple #[.string ⟨#[]⟩,.iface 82 (.int .i64 3)]))from fun h=>by unfold mJ;rw[ar hc,ar (by simp[h])]);have Mh:=O (show(lh user&&lh pass)=true->mJ user pass (.returned (.tuple #[.string (C4 user pass),.nilIface]))from fun h=>by unfold mJ;rw[ar hc,aA h]);have lZ:=O j6
  have HCA:=O (show∀U,Fr aW (w.alloc (.cells #[.string user,.string pass] 31)) U->U.cell? ⟨w.heap.size,0,none⟩=some (.string user)/\U.cell? ⟨w.heap.size,1,none⟩=some (.string pass)from fun U hU=>by
   have rM:=hU.keep pI id;simp[World.cell?,rM])
  have D':Fr aW w ((w.alloc (.cells #[.string user,.string pass] 31)).alloc (.cells #[.string user,.string pass] 9)):=j6.alloc _;have xc:∀U,Fr aW ((w.alloc (.cells #[.string user,.string pass] 31)).alloc (.cells #[.string user,.string pass] 9)) U ->
    U.cell? ⟨w.heap.size,0,none⟩=some (.string user)/\U.cell? ⟨w.heap.size,1,none⟩=some (.string pass)/\∀(k:Nat) x,[user,pass][k]?=some x->U.cell? ⟨w.heap.size+1,k,none⟩=some (.string x):=fun U hU=>by
   have lI:=hU.keep (((ae aW _).alloc _).keep pI id) id;have rM:=hU.keep (aB (w.alloc (.cells #[.string user,.string pass] 31)) (.cells #[.string user,.string pass] 9)) id;rw[bM]at rM;refine⟨by simp[World.cell?,lI],by simp[World.cell?,lI],fun k x hx=>?_⟩;rcases GM hx with ⟨rfl,rfl⟩|⟨rfl,rfl⟩<;>simp[World.cell?,rM]
  have Eo:=O xc;have rq:=O D';clear j6 pI xc D';go_enter func71,ntmps71;go_wp2_with fail
  refine(strings_Contains_one user 58 _).mono ?_;rintro e u1⟨rfl,rfl⟩;rw[hd];go_wp2;obtain⟨wl,D8⟩:∃wl,wl=(w.alloc (.cells #[.string user,.string pass] 31)).alloc (.cells #[.string user,.string pass] 9):=⟨_,rfl⟩;rw[<-D8]at Eo rq ⊢;clear D8;go_loopw[17] (afO user pass wl) (fun i _=>2-(intOf i).toNat)
  case atStart=>exact⟨0,ab,rfl,ab,ab,ae _ _⟩
  case round =>
   obtain⟨k,hk,rfl,oQ,dn,cN⟩:=hrel;generalize wr=wo at *
   by_cases rM:k<2
   ·have alA:(k:Int)<2:=ab;obtain⟨s,hs⟩:∃s,[user,pass][k]?=some s:=⟨_,List.getElem?_eq_getElem (by simpa using rM)⟩;have hcell:=(Eo.o wo cN).2.2 k s hs;have xx:s.size<=100000:=by rcases GM hs with ⟨_,rfl⟩|⟨_,rfl⟩<;>assumption
    have Lu:=O (show lh s=true->(0<k+1->lh user=true)/\(1<k+1->lh pass=true)from fun h=>by
     rcases GM hs with ⟨rfl,rfl⟩|⟨rfl,rfl⟩
     ·exact⟨fun _=>h,fun h=>ab⟩
     ·exact⟨fun _=>oQ ab,fun _=>h⟩)
    have ZD:=O (show lh s=false->(lh user&&lh pass)=false from fun h=>by
     rcases GM hs with ⟨rfl,rfl⟩|⟨rfl,rfl⟩<;>simp[h])
    clear hs oQ dn;go_wp2;go_loopw[23] (alz s wl) (fun i _=>s.size-(intOf i).toNat)
    case atStart=>exact⟨0,ab,rfl,rfl,cN⟩
    case round =>
     obtain⟨j,hj,rfl,iE,ki⟩:=hrel;by_cases hj2:j<s.size
     ·have alB:(j:Int)<(s.size:Int):=ab;have qD:=byte_at s j hj2;by_cases hb:PZ s[j]=true
      ·have HFI:=O (show lh s=false by
        unfold lh;rw[iU];exact⟨s[j],cA qD,by simp[hb]⟩)
       have hor:s[j].toNat<32\/s[j].toNat=127:=by
        unfold PZ at hb;simp only[Bool.or_eq_true,dx,dQ]at hb;rcases hb with h|h
        ·exact .inl (UInt8.lt_iff_toNat_lt.1 h)
        ·exact .inr (by rw[h];rfl)
       by_cases h32:s[j].toNat<32
       ·have afQ:(s[j].toNat:Int)<32:=ab;go_wp2;go_ret2;exact⟨Bx.o (ZD.o HFI.o),rq.o.trans ki⟩
       ·have afQ:¬(s[j].toNat:Int)<32:=ab;have arR:s[j].toNat=127:=ab;have afR:(s[j].toNat:Int)=127:=ab;go_wp2;go_ret2;exact⟨Bx.o (ZD.o HFI.o),rq.o.trans ki⟩
      ·have hor:¬s[j].toNat<32/\¬s[j].toNat=127:=by
        unfold PZ at hb;simp only[Bool.or_eq_true,dx,dQ,not_or]at hb;exact⟨fun h=>hb.1 (UInt8.lt_iff_toNat_lt.2 h),fun h=>hb.2 (iD.1 h)⟩
       obtain⟨o1,o2⟩:=hor;have afQ:¬(s[j].toNat:Int)<32:=ab;have afR:¬(s[j].toNat:Int)=127:=ab;have Ab:=O (show(s.data.toList.take (j+1)).all (fun c=>!PZ c)=true by
        rw[ct,qD,jI,iE];simp[hb])
       clear qD iE;go_wp2;go_roundw
       case rel=>exact⟨j+1,ab,bf,Ab.o,ki⟩
       case measure=>simp[intOf];omega
     ·have alB:¬(j:Int)<(s.size:Int):=ab;have HFI:=O (show lh s=true by
       unfold lh;rw[aD bF]at iE;exact iE)
      clear iE;go_wp2;go_roundw
      case rel=>exact⟨k+1,ab,bf,(Lu.o HFI.o).1,(Lu.o HFI.o).2,ki⟩
      case measure=>simp[intOf];omega
   ·have alA:¬(k:Int)<2:=ab;have Lt:(lh user&&lh pass)=true:=by rw[oQ ab,dn ab];rfl
    have HPO:=O (Mh.o Lt);obtain⟨c0,c1,_⟩:=Eo.o wo cN;have sJ:¬9223372036854775807<user.size+1:=ab;have kh:¬9223372036854775807<user.size+1+pass.size:=ab;clear oQ dn Lt;have alC:=O (fun W=>Mg (user++⟨#[58]⟩++pass) W (by simp[iQ];show user.size+1+pass.size<_;omega));have wR:=O (show(uU (user++⟨#[58]⟩++pass).data.toList).length<=400000 from by rw[OG];simp[gD];omega)
    have HEQ:=O (show(⟨#[66,97,115,105,99,32]⟩++⟨(uU (user++⟨#[58]⟩++pass).data.toList).toArray⟩:ai)=C4 user pass from by
     apply Go.WideShapes.bytes_inj;unfold C4;simp[gD])
    go_wp2_with fail
    refine(alC.o _).mono ?_;rintro e w7⟨rfl,oa⟩;generalize uU (user++⟨#[58]⟩++pass).data.toList=bl at *
    have sN:¬9223372036854775807<6+bl.length:=by have:=wR.o;omega
    go_wp2;go_ret2;rw[<-HEQ.o]at HPO;exact⟨HPO.o,(rq.o.trans cN).trans oa⟩
open Go.RowKit Go.Shelf
attribute [local go_sem] Oper.semAt_some
theorem GP(s sep:ai)(w:World) :
  aC 154 #[.string s,.string sep] w fun e w' =>
   e=.returned (.func (.func 233) #[] #[.pointer (some ⟨w.heap.size+1,0,none⟩),.pointer (some ⟨w.heap.size,0,none⟩),.pointer (some ⟨w.heap.size+2,0,none⟩)]) /\
   w'=((w.alloc (.cells #[.string s] 9)).alloc (.cells #[.string sep] 9)).alloc (.cells #[.int .i64 0] 3):=by
 have V5:aC 202 #[.string s,.string sep,.int .i64 0] w fun e w' =>
   e=.returned (.func (.func 233) #[] #[.pointer (some ⟨w.heap.size+1,0,none⟩),.pointer (some ⟨w.heap.size,0,none⟩),.pointer (some ⟨w.heap.size+2,0,none⟩)]) /\
   w'=((w.alloc (.cells #[.string s] 9)).alloc (.cells #[.string sep] 9)).alloc (.cells #[.int .i64 0] 3):=by
  go_enter func202,ntmps202;go_wp2;go_ret;exact⟨rfl,rfl⟩
 go_enter func154,ntmps154;go_wp2_with fail
 refine V5.mono ?_;rintro e w1⟨rfl,rfl⟩;go_wp2;go_ret;exact⟨rfl,rfl⟩
theorem Tx(f:aH->Nat):∀(L:List (aH)) (l:aH),l∈L->f l<=(L.map f).sum
 |a :: L,l,h=>by
  simp only[cz,List.sum_cons];rcases bu.1 h with rfl|h
  ·omega
  ·have:=Tx f L l h;omega
theorem Mm{c:UInt8}{s:ai}(h:x∈iJ c s):x.size<=s.size:=by
 unfold iJ at h;obtain⟨l,hl,rfl⟩:=cj.1 h;have h1:=Ai c s.data.toList;have h2:l.length+1<=((dU c s.data.toList).map fun p=>p.length+1).sum:=Tx (fun p=>p.length+1) _ l hl;have h3:s.data.toList.length=s.size:=aQ;show l.toArray.size<=_;simp only[ba];omega
def qI:ai:=⟨#[97,98,99,100,101,102,103,104,105,106,107,108,109,110,111,112,113,114,115,116,117,118,119,120,121,122,48,49,50,51,52,53,54,55,56,57,45]⟩
theorem Er:∀b∈qI.data.toList,b.toNat<128:=dp
theorem JO:∀n:Fin 256,qI.data.toList.contains n.val.toUInt8=I9 n.val.toUInt8:=dp
theorem Bc(l:aH):l.all (qI.data.toList.contains ·)=l.all I9:=by
 congr 1;funext c
 have h:=JO ⟨c.toNat,c.toNat_lt⟩;simpa using h
def ud(s:ai):Bool:=N7 s.data.toList
def vM(w wc W:World):Prop:=W.heap[w.heap.size]?=some (.cells #[.bool false] 4 (0,0))/\Fr aW w W/\wc.heap.size<=W.heap.size
def JP(w wc:World)(pre:List ai)(W:World):Prop:=(∀p∈pre,Cq p.data.toList=true)/\vM w wc W
def Ty(w wc:World)(pre:List ai)(W:World):Prop:=(∃p∈pre,Cq p.data.toList=false)/\vM w wc W
theorem vM.fr(hz:wc.heap.size=w.heap.size+4)(h:vM w wc A)(hf:Fr (C5 (w.heap.size+1) wc.heap.size) A B):vM w wc B :=
 ⟨hf.keep h.1 (by unfold C5;omega),h.2.1.step hf (fun j hj hk=>by unfold C5 at hk;omega),aE h.2.2 hf.size⟩
theorem vM.grow(h:vM w wc A)(hf:Fr aW A B):vM w wc B:=⟨hf.keep h.1 id,h.2.1.trans hf,aE h.2.2 hf.size⟩
theorem vM.put(h:vM w wc A):vM w wc (A.setCell ⟨w.heap.size,0,none⟩ (.bool false)) :=
 ⟨by simp[World.setCell,Array.getElem?_modify,h.1],h.2.1.gI (p:=⟨w.heap.size,0,none⟩) (ay _) _,by simpa[World.setCell]using h.2.2⟩
theorem Fr.others(h:Fr aW A B):KeepsOthers A B:=⟨h.size,fun _ _ hk _=>h.keep hk id⟩
theorem Fr.abT(h:Fr aW A B)(hk:k+3<=A.heap.size):vL k A B:=fun j _ h2=>h.block j ab id
theorem Tz(h:JP w wc pre W)(hx:Cq x.data.toList=false)(A:World)(hA:Fr aW W A)(aa:Act) :
  Mi (w.heap.size+1) (JP w wc) (Ty w wc) (pre++[x]) W .ret aa (A.setCell ⟨w.heap.size,0,none⟩ (.bool false)) :=
 ⟨hA.others.trans (KeepsOthers.setCell A _ _),⟨x,aQ,hx⟩,(h.2.grow hA).put⟩
theorem P8(hz:wc.heap.size=w.heap.size+4)(h:JP w wc pre W)(hx:Cq x.data.toList=true)(A:World)(hA:Fr aW W A)(aa:Act) :
  Mi (w.heap.size+1) (JP w wc) (Ty w wc) (pre++[x]) W .normal aa A :=
 ⟨hA.others,hA.abT (by have:=h.2.2.2;omega),fun p hp=>by
  rcases bP.1 hp with hp|hp
  ·exact h.1 p hp
  ·rw[cV]at hp;subst hp;exact hx,h.2.grow hA⟩
theorem TA(s:ai)(w:World)(hs:s.size<100000) :
  aC 97 #[.string s] w fun e w'=>e=.returned (.bool (ud s))/\Fr aW w w':=by
 by_cases h60:60<s.size
 ·have i60:(60:Int)<(s.size:Int):=ab;have HT:=O (show ud s=false by unfold ud N7;rw[bB (by simpa using h60)];rfl);go_enter func97,ntmps97;go_wp2;refine aR (v:=.bool false) ?_ rfl ⟨by rw[HT.o],?_⟩
  ·simp[results,Tryz.f97,go_sem]
  ·first|exact(ae aW w).alloc _|exact((ae aW w).alloc _).gI (p:=⟨w.heap.size,0,none⟩) (ay _) _
 ·have i60:¬(60:Int)<(s.size:Int):=ab;obtain⟨wb,jJ⟩:∃wb,wb=w.alloc (.cells #[.bool false] 4):=⟨_,rfl⟩;have hzb:wb.heap.size=w.heap.size+1:=by rw[jJ];simp
  have j6:Fr aW w wb:=by rw[jJ];exact(ae aW w).alloc _
  have Lv:wb.heap[w.heap.size]?=some (.cells #[.bool false] 4 (0,0)):=by rw[jJ];exact aB _ _
  obtain⟨wc,hwc⟩:∃wc,wc=((wb.alloc (.cells #[.string s] 9)).alloc (.cells #[.string ⟨#[46]⟩] 9)).alloc (.cells #[.int .i64 0] 3):=⟨_,rfl⟩;have hfc:Fr aW wb wc:=by rw[hwc];exact(((ae aW wb).alloc _).alloc _).alloc _
  have hzc:wc.heap.size=w.heap.size+4:=by rw[hwc];simp[hzb]
  have hc0:wc.heap[w.heap.size+1]?=some (.cells #[.string s] 9 (0,0)):=by
   rw[hwc, <-hzb];exact(((ae aW _).alloc _).alloc _).keep (aB wb _) id
  have pJ:wc.heap[w.heap.size+1+1]?=some (.cells #[.string ⟨#[46]⟩] 9 (0,0)):=by
   rw[hwc, <-hzb];have:=((ae aW _).alloc (.cells #[.int .i64 0] 3)).keep (aB (wb.alloc (.cells #[.string s] 9)) (.cells #[.string ⟨#[46]⟩] 9)) id;simpa using this
  have sW:wc.heap[w.heap.size+1+2]?=some (.cells #[.int .i64 0] 3 (0,0)):=by
   rw[hwc, <-hzb];have:=aB ((wb.alloc (.cells #[.string s] 9)).alloc (.cells #[.string ⟨#[46]⟩] 9)) (.cells #[.int .i64 0] 3);simpa using this
  have HSS:=O ((GP s ⟨#[46]⟩ wb).mono (R':=fun e w'=>e=.returned (.func (.func 233) #[] #[.pointer (some ⟨w.heap.size+1+1,0,none⟩),.pointer (some ⟨w.heap.size+1,0,none⟩),.pointer (some ⟨w.heap.size+1+2,0,none⟩)])/\wc=w') (fun e w' h=>by rw[hzb, <-hwc]at h;exact⟨h.1,h.2.symm⟩));have qC:=O jJ;clear jJ hwc;refine(callsIn_wide (n:=5)).1 ?_;refine callsIn_of_wp_marks func97 rfl trivial ?_ rfl
  simp only[ntmps97,ba,List.length_cons,List.length_nil,Nat.reduceAdd,Nat.reduceSub,Array.replicate_succ,Array.replicate_zero,List.push_toArray,List.append_toArray,List.nil_append,List.cons_append]
  gi_wp2_with fail
  rw[<-qC.o];refine⟨trivial,?_⟩;refine(callsIn_wide.2 HSS.o).mono ?_;rintro e u⟨rfl,rfl⟩;gi_wp2;have hkc:=hfc.keep Lv id;have af2:=j6.trans hfc;have abV:=O (show ud s=(iJ 46 s).all (fun p=>Cq p.data.toList)by
   unfold ud N7 iJ;rw[bK (by simpa using Nat.le_of_not_lt h60),Bool.true_and,List.all_map];rfl)
  refine Ah rfl ag (gf:=233) (lb:= #[.pointer (some ⟨w.heap.size+1+1,0,none⟩),.pointer (some ⟨w.heap.size+1,0,none⟩),.pointer (some ⟨w.heap.size+1+2,0,none⟩)]) rfl trivial (enters_of func233 af rfl)
   (enc:=fun x:ai=>Value.string x) (k:=w.heap.size+1) (ys:=iJ 46 s) ab (BB s (w.heap.size+1) 4 wc ag hs hc0 pJ sW) rfl
   (JP w wc) (Ty w wc) (fun xs A B h f=>⟨h.1,h.2.fr hzc f⟩) (fun xs A B h f=>⟨h.1,h.2.fr hzc f⟩) ⟨(fun p hp=>by cases hp),hkc,af2,ay _⟩
   (fun x=>{tmps:= #[.string s,undef,.pointer (some ⟨w.heap.size,0,none⟩),.string x,.string s,.int .i64 s.size,.bool false,.string s,.func (.func 233) #[] #[.pointer (some ⟨w.heap.size+1+1,0,none⟩),.pointer (some ⟨w.heap.size+1,0,none⟩),.pointer (some ⟨w.heap.size+1+2,0,none⟩)],.string x,undef,undef,undef,undef,undef,undef,undef,undef,undef,undef,undef,undef,undef,undef,undef,undef,undef,undef,undef,undef],defers:=[]}) ?assign ?body ?done ?stop
  case assign =>
   intro l x W K hK;gi_wp2;exact hK
  case body =>
   intro l pre x W hi hxp;have hxz:x.size<=s.size:=Mm (hxp.subset aQ);clear hxp;have Fl:=O (fun hx=>P8 (x:=x) hzc hi hx);have Bx:=O (fun hx=>Tz (x:=x) hi hx);obtain⟨_,hr,_,_⟩:=hi;have HR:=O hr;have c0:W.cell? ⟨w.heap.size,0,none⟩=some (.bool false):=by simp[World.cell?,hr]
   have c1:W.frozen? ⟨w.heap.size,0,none⟩=false:=by simp[World.frozen?,hr]
   clear hr Lv hkc hc0 pJ sW j6 hfc af2 hzb HSS qC abV;by_cases GQ:x.size=0
   ·have hl:Cq x.data.toList=false:=by
     have:x.data.toList=[]:=by apply bZ;simpa using GQ
     rw[this];rfl
    have hem:x.toList=[]:=by rw[aN];apply bZ;simpa using GQ
    have arY:x.toList.isEmpty=true:=by rw[hem];rfl
    have HB:=O (Bx.o hl);clear hl Bx Fl;gi_wp2;refine⟨trivial,?_⟩;gi_wp2;exact HB.o W (ae _ _) _
   ·obtain⟨m,hm⟩:∃m,x.size=m+1:=⟨x.size-1,ab⟩;have hne:¬x.toList=[]:=by rw[aN];intro h;apply GQ;have:=aq List.length h;simpa using this
    have TB:x.toList.isEmpty=false:=by simpa using hne
    have HEM:=O (show x.data.toList.isEmpty=false by rw[<-aN];exact TB);have HH0:=O (show x.data.toList.head?=some (x[0]'ab)by rw[List.head?_eq_getElem?];exact byte_at x 0 ab);have HHL:=O (show x.data.toList.getLast?=some (x[m]'ab)by
     rw[List.getLast?_eq_getElem?]
     have:x.data.toList.length-1=m:=by have:x.data.toList.length=x.size:=by simp
                                       omega
     rw[this];exact byte_at x m ab)
    have hm1:((x.size:Nat):Int)-1=(m:Int):=ab;have Ea:(m:Int)<(x.size:Int):=ab;have hm3:(0:Int)<=(m:Int):=ab;have hm4:m<x.size:=ab;have hm5:0<x.size:=ab;have hm6:(0:Int)<(x.size:Int):=ab;have TC:∀c:UInt8,c=45↔(c.toNat:Int)=45:=fun c=>by
     constructor
     ·rintro rfl;rfl
     ·intro h;exact UInt8.toNat.inj (by have:(45:UInt8).toNat=45:=rfl;omega)
    by_cases XR:x[0]'ab=45
    ·have i0:(((x[0]'ab).toNat:Int)==45)=true:=dQ.2 ((TC _).1 XR);have i0':((x[0]'ab).toNat:Int)=45:=(TC _).1 XR;have HB:=O (Bx.o (by unfold Cq;rw[HH0.o,XR];simp));clear Bx Fl HEM HH0 HHL TC XR;gi_wp2;refine⟨trivial,?_⟩;gi_wp2;exact HB.o W (ae _ _) _
    ·have i0:(((x[0]'ab).toNat:Int)==45)=false:=aK.2 (fun h=>XR ((TC _).2 h));have i0':¬((x[0]'ab).toNat:Int)=45:=fun h=>XR ((TC _).2 h);by_cases Z6:x[m]'ab=45
     ·have i1:(((x[m]'ab).toNat:Int)==45)=true:=dQ.2 ((TC _).1 Z6);have i1':((x[m]'ab).toNat:Int)=45:=(TC _).1 Z6;have HB:=O (Bx.o (by unfold Cq;rw[HHL.o,Z6];simp));clear Bx Fl HEM HH0 HHL TC Z6 XR;gi_wp2;refine⟨trivial,?_⟩;gi_wp2;exact HB.o W (ae _ _) _
     ·have i1:(((x[m]'ab).toNat:Int)==45)=false:=aK.2 (fun h=>Z6 ((TC _).2 h));have i1':¬((x[m]'ab).toNat:Int)=45:=fun h=>Z6 ((TC _).2 h);have wR:=O (show Cq x.data.toList=x.data.toList.all I9 by
       unfold Cq;rw[HEM.o,HH0.o,HHL.o,show(some (x[0]'ab)==some 45)=false by simpa using XR,show(some (x[m]'ab)==some 45)=false by simpa using Z6];rfl)
      have HTR:=O (rW x qI W ab ag ag Er);clear HEM HH0 HHL TC Z6 XR
      gi_wp2_with fail
      refine⟨trivial,?_⟩;refine(CallsIn.inRound l (callsIn_wide.2 HTR.o)).mono ?_;rintro e u⟨rfl,zP⟩;cases iE:x.data.toList.all I9
      ·have N8:Lib.trimS x.data.toList qI.data.toList≠ []:=fun h=>by rw[wm,Bc,iE]at h;cases h
       have t1:¬(⟨(Lib.trimS x.data.toList qI.data.toList).toArray⟩:ai).toList=[]:=by rw[aN];simpa using N8
       have t2:(⟨(Lib.trimS x.data.toList qI.data.toList).toArray⟩:ai).toList.isEmpty=false:=by simpa using t1
       have HB:=O (Bx.o (wR.o.trans iE));have LY:=zP.keep HR.o id;have d0:u.cell? ⟨w.heap.size,0,none⟩=some (.bool false):=by simp[World.cell?,LY]
       have d1:u.frozen? ⟨w.heap.size,0,none⟩=false:=by simp[World.frozen?,LY]
       clear N8 iE Bx Fl wR HTR c0 c1;generalize (⟨(Lib.trimS x.data.toList qI.data.toList).toArray⟩:ai)=z at *
       gi_wp2;exact HB.o u zP _
      ·have N8:Lib.trimS x.data.toList qI.data.toList=[]:=by rw[wm,Bc,iE]
       rw[N8];have HG:=O (Fl.o (wR.o.trans iE));clear N8 iE Bx Fl wR HTR;gi_wp2;exact HG.o u zP _
  case done =>
   rintro D W rfl⟨iE,hw⟩hd;have c0:W.cell? ⟨w.heap.size,0,none⟩=some (.bool false):=by simp[World.cell?,hw.1]
   have c1:W.frozen? ⟨w.heap.size,0,none⟩=false:=by simp[World.frozen?,hw.1]
   have HT:=O (show ud s=true by rw[abV.o,fZ];exact iE);have HF:=O hw.2.1;clear hw;gi_wp2;have vN:=(KeepsOthers.setCell W ⟨w.heap.size,0,none⟩ (.bool true)).same _ _ hd rfl;refine⟨aQ,.inl ⟨_,_,rfl,run_takeDeferred vN,?_⟩⟩
   have tN:=cell_kept (World.cell?_setCell_same' W ⟨w.heap.size,0,none⟩ (.bool true) (by rw[c0];rfl)) (grownBy_putObj' _ wc.heap.size (.deferred none)) (fun r e=>by cases e;exact⟨_,vN,rfl⟩);refine⟨.bool true,?_,by rw[HT.o],(HF.o.gI (p:=⟨w.heap.size,0,none⟩) (ay _) _).putObj (fun hl=>ab) _⟩;simp[results,Tryz.f97,go_sem,tN]
  case stop =>
   rintro D xs W rfl ZK⟨⟨p,hp,hlp⟩,hw⟩hd;have HT:=O (show ud s=false by rw[abV.o,iU];exact⟨p,ZK.subset hp,by simp[hlp]⟩);have c0:W.cell? ⟨w.heap.size,0,none⟩=some (.bool false):=by simp[World.cell?,hw.1]
   have HF:=O hw.2.1;clear hw;gi_wp2;refine⟨aQ,.inl ⟨_,_,rfl,run_takeDeferred hd,?_⟩⟩;have tN:=cell_kept c0 (grownBy_putObj' _ wc.heap.size (.deferred none)) (fun r e=>by cases e;exact⟨_,hd,rfl⟩);refine⟨.bool false,?_,by rw[HT.o],HF.o.putObj (fun hl=>ab) _⟩;simp[results,Tryz.f97,go_sem,tN]
def nM(o:gy):Bool:=abf ⟨o.aG,o.host.data.toList,o.port⟩
theorem Fm(o:gy)(w:World)(hs:o.host.size<100000) :
  aC 65 #[.agg o.cells.toArray] w fun e w'=>e=.returned (.bool (nM o))/\Fr aW w w':=by
 obtain⟨sec,host,port⟩:=o;unfold gy.cells;have HR:=O (show nM ⟨sec,host,port⟩=(ud host&&(decide (1<=port)&&decide (port<=65535)))from rfl);obtain⟨wb,jJ⟩:∃wb,wb=w.alloc (.cells #[.bool sec,.string host,.int .i64 port] 24):=⟨_,rfl⟩;have j6:Fr aW w wb:=by rw[jJ];exact(ae aW w).alloc _
 have lI:wb.heap[w.heap.size]?=some (.cells #[.bool sec,.string host,.int .i64 port] 24 (0,0)):=by rw[jJ];exact aB _ _
 have qC:=O jJ;clear jJ;go_enter func65,ntmps65;go_wp2_with fail
 rw[<-qC.o];refine(TA host wb hs).mono ?_;rintro e u⟨rfl,zP⟩;have rM:=zP.keep lI id;have c2:u.cell? ⟨w.heap.size,2,none⟩=some (.int .i64 port):=by simp[World.cell?,rM]
 generalize ud host=b at *
 cases b
 ·go_wp2;go_ret;exact⟨by rw[HR.o];rfl,j6.trans zP⟩
 ·by_cases h1:1<=port
  ·have d1:decide (1<=port)=true:=bK h1;go_wp2;go_ret;exact⟨by rw[HR.o,d1];rfl,j6.trans zP⟩
  ·have d1:decide (1<=port)=false:=bB h1;go_wp2;go_ret;exact⟨by rw[HR.o,d1];rfl,j6.trans zP⟩
theorem rz(base:Nat)(v:Value)(ss:List ai)(w:World)(h:cZ base w v ss) :
  aC 99 #[v] w fun e w'=>∃a c,e=.returned (.slice a ss.length c)/\cZ base w' (.slice a ss.length c) ss/\Fr aW w w':=by
 have hl:=h.rf;rcases h.rd with ⟨a,c,rfl,rfl,_⟩|⟨bk,o,c,rfl,h1,h2,h3,h4⟩
 ·cases a with
  |none=>exact(slices_Clone_string_nil 0 c w).mono fun e w' ⟨he,hw⟩=>⟨none,0,he,cZ.nil _ _,hw▸ae _ _⟩
  |some a =>
   refine(slices_Clone_string_zero a c w).mono fun e w' ⟨v',he,ho,_,hb⟩=>?_;have hs:Strs w.heap.size w' v' []:=ho;obtain⟨a',c',hv⟩:=hs.form;exact⟨a',c',by rw[he,hv],by rw[<-hv];exact hs.in hl,fe hb⟩
 ·refine(slices_Clone_string bk o ss.length c ss w (ay _) ab (fun j hj=>h4 j _ (by simp[List.getD,hj]))).mono fun e w' ⟨v',he,ho,_,hb⟩=>?_;rw[aD (ay _)]at ho;have hs:Strs w.heap.size w' v' ss:=ho;obtain⟨a',c',hv⟩:=hs.form;exact⟨a',c',by rw[he,hv],by rw[<-hv];exact hs.in hl,fe hb⟩
def TG(base:Nat)(m:aU bE)(w:World)(e:Ending)(w':World):Prop :=
 ∃r:aU Value,e=.returned (.agg r.cells.toArray)/\r.Reads (cZ base w') m/\(∀u∈r.cells,u.oneCell'=true)/\Fr aW w w'
theorem Fp{r:aU Value}{a b:eZ}{n m c d:Nat}(h1:r.a.dom=.slice a n c)(h2:r.paths=.slice b m d):∀u∈r.cells,u.oneCell'=true:=by
 intro u hu;simp only[aU.cells,bu,cg,dS]at hu;rcases hu with rfl|rfl|rfl|rfl|rfl|rfl|rfl|rfl|rfl|rfl|rfl|rfl|rfl|rfl|rfl|rfl<;>first|rfl|(rw[h1];rfl)|(rw[h2];rfl)
theorem ug(base:Nat)(g:aU Value)(m:aU bE)(w:World)(il:base<=w.heap.size)(h:g.Reads (cZ base w) m) :
  aC 94 #[.agg g.cells.toArray] w (TG base m w):=by
 have Z8:=h.2.2.2.2.2.2;have hdi:=h.2.2.2.2.1.2.2.2.2.2.2.2;have H:=O h;clear h;unfold aU.cells;obtain⟨ad,cd,hd⟩:=hdi.rd.form;obtain⟨ap,cp,hp⟩:=Z8.rd.form;rw[hp]at Z8;rw[hd]at hdi;rw[hd,hp];clear hd hp;go_enter func94,ntmps94;go_wp2_with fail
 have oQ:Fr aW w _:=((ae aW w).alloc (.cells #[.bool g.o.aG,.string g.o.host,.int .i64 g.o.port,.bool g.proxy,.string g.user,.string g.pass,.int .i64 g.a.scheme,.string g.a.aP,.string g.a.bz,.string g.a.cC,.bool g.a.cD,.string g.a.eY,.bool g.a.du,.slice ad m.a.dom.length cd,.int .i64 g.count,.slice ap m.paths.length cp] 133)).alloc (.cells fc 133)
 have b0:=Below.heap_alloc (w.alloc (.cells #[.bool g.o.aG,.string g.o.host,.int .i64 g.o.port,.bool g.proxy,.string g.user,.string g.pass,.int .i64 g.a.scheme,.string g.a.aP,.string g.a.bz,.string g.a.cC,.bool g.a.cD,.string g.a.eY,.bool g.a.du,.slice ad m.a.dom.length cd,.int .i64 g.count,.slice ap m.paths.length cp] 133)) (.cells fc 133) w.heap.size aQ;rw[aB]at b0
 have b1:=aB (w.alloc (.cells #[.bool g.o.aG,.string g.o.host,.int .i64 g.o.port,.bool g.proxy,.string g.user,.string g.pass,.int .i64 g.a.scheme,.string g.a.aP,.string g.a.bz,.string g.a.cC,.bool g.a.cD,.string g.a.eY,.bool g.a.du,.slice ad m.a.dom.length cd,.int .i64 g.count,.slice ap m.paths.length cp] 133)) (.cells fc 133)
 rw[show(w.alloc (.cells #[.bool g.o.aG,.string g.o.host,.int .i64 g.o.port,.bool g.proxy,.string g.user,.string g.pass,.int .i64 g.a.scheme,.string g.a.aP,.string g.a.bz,.string g.a.cC,.bool g.a.cD,.string g.a.eY,.bool g.a.du,.slice ad m.a.dom.length cd,.int .i64 g.count,.slice ap m.paths.length cp] 133)).heap.size=w.heap.size+1 from aQ]at b1
 generalize (w.alloc (.cells _ 133)).alloc _=W at oQ b0 b1;have Z8:=Z8.dt oQ;have hdi:=hdi.dt oQ;refine(rz base _ m.paths W Z8).mono ?_;rintro e u1⟨a1,c1,rfl,Bp,dn⟩;have RN:=dn.keep b0 id;have TH:=dn.keep b1 id;have af8:=hdi.dt dn;have abY:=oQ.trans dn;have c13:u1.cell? ⟨w.heap.size,13,none⟩=some (.slice ad m.a.dom.length cd):=by simp[World.cell?,RN]
 have c15:u1.cell? ⟨w.heap.size,15,none⟩=some (.slice ap m.paths.length cp):=by simp[World.cell?,RN]
 have f15:u1.frozen? ⟨w.heap.size,15,none⟩=false:=by simp[World.frozen?,RN]
 clear oQ b0 b1 dn Z8 hdi;have Z9:w.heap.size<=u1.heap.size:=abY.size;go_wp2_with fail
 have dD:=abY.gI (p:=⟨w.heap.size,15,none⟩) (ay _) (.slice a1 m.paths.length c1);have b0:=b_ RN 15 (.slice a1 m.paths.length c1);have b1:=(sL (w:=u1) (b:=w.heap.size) (g:=w.heap.size+1) ab 15 (.slice a1 m.paths.length c1)).trans TH;have rA:rL base u1 (one w.heap.size):=by
  rintro k rfl hk;exact⟨il,fun c f e=>by rw[RN]at e;cases e⟩
 have kx:Fr (one w.heap.size) u1 (u1.setCell ⟨w.heap.size,15,none⟩ (.slice a1 m.paths.length c1)):=(ae (one w.heap.size) u1).setCell (p:=⟨w.heap.size,15,none⟩) (fun _=>rfl) _;have Ci:=Bp.fr kx rA;have tO:=af8.fr kx rA;clear Bp af8 rA kx RN TH abY c13 c15 f15;generalize u1.setCell ⟨w.heap.size,15,none⟩ (.slice a1 m.paths.length c1)=U at *
 refine(rz base _ m.a.dom U tO).mono ?_;rintro e u2⟨a2,c2,rfl,Sp,ik⟩
 have RN:u2.heap[w.heap.size]?=some (.cells #[.bool g.o.aG,.string g.o.host,.int .i64 g.o.port,.bool g.proxy,.string g.user,.string g.pass,.int .i64 g.a.scheme,.string g.a.aP,.string g.a.bz,.string g.a.cC,.bool g.a.cD,.string g.a.eY,.bool g.a.du,.slice ad m.a.dom.length cd,.int .i64 g.count,.slice a1 m.paths.length c1] 133 (0,0)):=ik.keep b0 id;have TH:=ik.keep b1 id;have Z_:=Ci.dt ik
 have HF:=dD.trans ik;have c13:u2.cell? ⟨w.heap.size,13,none⟩=some (.slice ad m.a.dom.length cd):=by simp[World.cell?,RN]
 have f13:u2.frozen? ⟨w.heap.size,13,none⟩=false:=by simp[World.frozen?,RN]
 have b2:(u2.setCell ⟨w.heap.size,13,none⟩ (.slice a2 m.a.dom.length c2)).heap[w.heap.size]?=some (.cells #[.bool g.o.aG,.string g.o.host,.int .i64 g.o.port,.bool g.proxy,.string g.user,.string g.pass,.int .i64 g.a.scheme,.string g.a.aP,.string g.a.bz,.string g.a.cC,.bool g.a.cD,.string g.a.eY,.bool g.a.du,.slice a2 m.a.dom.length c2,.int .i64 g.count,.slice a1 m.paths.length c1] 133 (0,0)):=b_ RN 13 (.slice a2 m.a.dom.length c2)
 have b3:=(sL (w:=u2) (b:=w.heap.size) (g:=w.heap.size+1) ab 13 (.slice a2 m.a.dom.length c2)).trans TH;have rA:rL base u2 (one w.heap.size):=by
  rintro k rfl hk;exact⟨il,fun c f e=>by rw[RN]at e;cases e⟩
 have kx:Fr (one w.heap.size) u2 (u2.setCell ⟨w.heap.size,13,none⟩ (.slice a2 m.a.dom.length c2)):=(ae (one w.heap.size) u2).setCell (p:=⟨w.heap.size,13,none⟩) (fun _=>rfl) _;have hs5:=Z_.fr kx rA;have hd5:=Sp.fr kx rA;have fS:=HF.gI (p:=⟨w.heap.size,13,none⟩) (ay _) (.slice a2 m.a.dom.length c2);have B2:=O b2;have B3:=O b3;clear b0 b1 RN TH b2 b3 rA kx Z_ Ci tO Sp HF dD ik
 have nz:(#[.bool g.o.aG,.string g.o.host,.int .i64 g.o.port,.bool g.proxy,.string g.user,.string g.pass,.int .i64 g.a.scheme,.string g.a.aP,.string g.a.bz,.string g.a.cC,.bool g.a.cD,.string g.a.eY,.bool g.a.du,.slice a2 m.a.dom.length c2,.int .i64 g.count,.slice a1 m.paths.length c1]:bS).all (·.oneCell')=true:=bU (Fp (r:={g with a:={g.a with dom:=.slice a2 m.a.dom.length c2},paths:=.slice a1 m.paths.length c1}) rfl rfl)
 have Wg:=O nz;clear nz;go_wp2_with (first|((with_reducible refine dv 13 ?_);refine aJ rfl 133 (.tmp 1) rfl w.heap.size rfl _ _ (0,0) _ B2.o underlying133 rfl af ?_)|((with_reducible refine cP 133 ?_);refine aF rfl 133 (.tmp 2) (.tmp 13) rfl (w.heap.size+1) _ rfl rfl _ fc B3.o af rfl Wg.o ?_)|fail)
 have rA:rL base (u2.setCell ⟨w.heap.size,13,none⟩ (.slice a2 m.a.dom.length c2)) (one (w.heap.size+1)):=by
  rintro k rfl hk;exact⟨ab,fun c f e=>by rw[B3.o]at e;cases e⟩
 generalize (u2.setCell ⟨w.heap.size,13,none⟩ (.slice a2 m.a.dom.length c2))=V at *
 have kx:Fr (one (w.heap.size+1)) V (V.setRow (w.heap.size+1) #[.bool g.o.aG,.string g.o.host,.int .i64 g.o.port,.bool g.proxy,.string g.user,.string g.pass,.int .i64 g.a.scheme,.string g.a.aP,.string g.a.bz,.string g.a.cC,.bool g.a.cD,.string g.a.eY,.bool g.a.du,.slice a2 m.a.dom.length c2,.int .i64 g.count,.slice a1 m.paths.length c1]):=(ae (one (w.heap.size+1)) V).setRow (fun _=>rfl) _
 refine aR (bh bw _ _ (w.heap.size+1) 133 #[.bool g.o.aG,.string g.o.host,.int .i64 g.o.port,.bool g.proxy,.string g.user,.string g.pass,.int .i64 g.a.scheme,.string g.a.aP,.string g.a.bz,.string g.a.cC,.bool g.a.cD,.string g.a.eY,.bool g.a.du,.slice a2 m.a.dom.length c2,.int .i64 g.count,.slice a1 m.paths.length c1] (0,0) _ rfl (aY V (w.heap.size+1) _ _ _ _ B3.o) underlying133 rfl af) rfl ?_
 obtain⟨h1,h2,h3,h4,⟨k1,k2,k3,k4,k5,k6,k7,_⟩,h6,_⟩:=H.o;exact⟨{g with a:={g.a with dom:=.slice a2 m.a.dom.length c2},paths:=.slice a1 m.paths.length c1},rfl,⟨h1,h2,h3,h4,⟨k1,k2,k3,k4,k5,k6,k7,hd5.fr kx rA⟩,h6,hs5.fr kx rA⟩,Fp rfl rfl,fS.setRow (fun h=>absurd h ab) _⟩
def acn(b:Nat)(w:World)(bk cap:Nat)(p:aX->Bool)(xs:cU)(i j:Value)(wr:World):Prop :=
 ∃(m n:Nat) (ys:cU),i=.int .i64 m/\j=.int .i64 n/\m<n/\n<=xs.length/\ys.length=xs.length/\OwnRows b 137 12 wr (.slice (some ⟨bk,0,none⟩) xs.length cap) ys /\
  ys.take m=(xs.take n).filter (fun x=>!p x)/\ys.drop n=xs.drop n/\Fr (one bk) w wr
theorem zl{p:aX->Bool}:∀ {l:cU} (i:Nat),l.any p=true->∃k x,l[k]?=some x/\p x=true/\(l.take k).any p=false/\lH p l i=((i+k:Nat):Int)
 |[],_,h=>by simp at h
 |a :: l,i,h=>by
  cases ha:p a
  ·rw[List.any_cons,ha,jw]at h;obtain⟨k,x,h1,h2,h3,h4⟩:=zl (i+1) h;refine⟨k+1,x,by simpa using h1,h2,by simp[ha,h3],?_⟩;rw[lH,ha];simp only[cG,eR];rw[h4];congr 1;omega
  ·exact⟨0,a,rfl,ha,rfl,by rw[lH,ha];simp⟩
theorem zm{p:aX->Bool}{l:cU}(h:l.any p=false):l.filter (fun x=>!p x)=l:=by
 rw[List.filter_eq_self];intro a ha;have:=eT.1 h a ha;simpa using this
theorem pG(b:Nat)(g:Nat)(cap:bS)(p:aX->Bool)(v:Value)(xs:cU)(w:World)(eg:∀args w,(callFunc g args).run prog w=.ok (.enter g args) w)(hp:gF (own v) w g cap p xs)(hv:OwnRows b 137 12 w v xs) :
  aC 141 #[v,.func (.func g) #[] cap] w fun e w'=>∃a c,e=.returned (.slice a (xs.filter (fun x=>!p x)).length c)/\OwnRows b 137 12 w' (.slice a (xs.filter (fun x=>!p x)).length c) (xs.filter (fun x=>!p x))/\Fr (own v) w w'/\own (.slice a (xs.filter (fun x=>!p x)).length c)=own v:=by
 cases iX:xs.any p
 ·have rB:=O (j8 (i:=0) iX);rw[zm iX];obtain⟨av,cv,fT⟩:=hv.form;subst fT;go_enter func141,ntmps141;go_wp2_with fail
  refine(uh g cap p _ xs w eg hp.none hv.at).mono ?_;rintro e w1⟨rfl,dn⟩;rw[rB.o];go_wp2;go_ret;exact⟨_,_,rfl,hv.fr dn (fun _ _ h=>h),dn.mono (fun _ _ h=>absurd h id),rfl⟩
 ·obtain⟨k0,x0,GQ,Dc,uV,rB⟩:=zl 0 iX;rw[bj]at rB;have LY:=(List.getElem?_eq_some_iff.1 GQ).1;obtain⟨bk,cp,JN⟩:∃bk cp,v=.slice (some ⟨bk,0,none⟩) xs.length cp:=by
   rcases hv.2.2 with ⟨_,hn⟩|⟨bk,cp,cur,hv,_⟩
   ·omega
   ·exact⟨bk,cp,hv⟩
  subst JN;obtain⟨Bu,cur,ub,q1,q2,q3,q4,q5,q6⟩:=hv.open (g:=bk) rfl;cases ub;unfold maxLen at q4;have dX:=O hv.1;have Dd:=O (show xs.take k0=(xs.take (k0+1)).filter (fun x=>!p x)by
   rw[dT GQ,cE,zm uV];simp[Dc])
  have HP:=O hp;have XV:=O rB;clear iX uV GQ Dc rB q2 q5 q6 hp;go_enter func141,ntmps141;go_wp2_with fail
  refine(uh g cap p _ xs w eg HP.o.none hv.at).mono ?_;rintro e w1⟨rfl,dn⟩;rw[XV.o];have H':=hv.fr dn (fun _ _ h=>h);have Ij:((k0:Int)== -1)=false:=by rw[aK];omega
  go_wp2;go_loopw[5,6] (acn b w bk cp p xs) (fun _ j _=>xs.length-(intOf j).toNat)
  case atStart=>exact⟨k0,k0+1,xs,rfl,bf,ab,ab,rfl,H',Dd.o,rfl,dn.mono (fun _ _ h=>absurd h id)⟩
  case round =>
   obtain⟨m,n,ys,rfl,rfl,hmn,hn,hlen,cO,re,sj,cN⟩:=hrel;have HT:=O re;have HD:=O sj;have jA:=O hlen;clear re sj hlen;rw[<-jA.o]at cO;have rC:=cO.at;by_cases fx:n<xs.length
   ·rcases rC.2 with ⟨_,_,_,e,_⟩|⟨bk',of,c,hf,h1,h2,h3,h4⟩
    ·have hl:=jA.o;rw[e]at hl;simp at hl;omega
    ·cases hf;have dL:=O (List.getElem?_eq_getElem fx);have xU:ys[n]?=some xs[n]:=by
      have e:=aq (fun l:cU=>l[0]?) HD.o;simp only[List.getElem?_drop,Nat.add_zero]at e;rw[e,dL.o]
     have hcell:=h4 n _ xU;simp only[bj]at hcell;have gM:=O (bL fx);generalize xs[n]=x at dL hcell gM xU;have lr:=(dX.o x gM.o).1;have nz:=O (dX.o x gM.o).2;have iM:=fun W=>run_storeCells_new (P:=prog) W 137 #[.bool false,.string ⟨#[]⟩,.int .i64 0,.bool false,.string ⟨#[]⟩,.int .i64 0,.string ⟨#[]⟩,.string ⟨#[]⟩,.bool false,.string ⟨#[]⟩,.string ⟨#[]⟩,.int .i64 0] x (by rw[lr];rfl) nz.o
     have iv:Fr aW wr (wr.alloc (.cells x.toArray 137)):=(ae aW wr).alloc _;have fy:=O (HP.o x gM.o (wr.alloc (.cells x.toArray 137)) ((cN.alloc _).mono (fun k _ h=>by have e:k=bk:=h;rw[e];rfl)));have GW:=O (Ao lr);have ki:=cN.alloc (.cells x.toArray 137);have fu:=cO.fr iv (fun _ _ h=>h);have rj:(wr.alloc (.cells x.toArray 137)).heap[wr.heap.size]?=some (.cells x.toArray 137 (0,0)):=aB _ _
     have tu:=O rj;clear h4 xU rj iv;go_wp2_with (first|((with_reducible refine dv 25 ?_);refine a_ rfl 137 (.tmp 24) rfl bk (n*12) rfl x _ hcell underlying137 rfl GW.o ?_)|((with_reducible refine dv 27 ?_);refine aJ rfl 137 (.tmp 7) rfl wr.heap.size rfl _ x.toArray (0,0) _ tu.o underlying137 rfl (by rw[ba];exact GW.o) ?_)|fail)
     have Z9:wr.heap.size<(wr.alloc (.cells x.toArray 137)).heap.size:=aQ;clear iM hcell;generalize wr.alloc (.cells x.toArray 137)=W2 at *
     refine fy.o.mono ?_;rintro e w3⟨rfl,ik⟩;have qi:=ki.trans (ik.mono (fun _ _ h=>absurd h id));have fk:=fu.fr ik (fun _ _ h=>h);have sN:=O (ik.keep tu.o id);have Mv:=O jA.o;cases qk:p x
     ·have Wh:=O (fk.there (g:=bk) (cap:=cp) (by rw[jA.o]) (o:=m*12) (n:=x.toArray.size) (by
       have hmc:(m+1)*12<=cp*12:=bN _ ab;rw[ba,lr];omega))
      have eU:=fk.store (i:=m) (y:=x) (by rw[jA.o];omega) lr nz.o (g:=bk) rfl;rw[jA.o]at eU;have od:=qi.step (fB (ae (one bk) w3) (fun _=>rfl) x (m*12)) (fun _ _ h=>h)
      go_wp2_with (first|((with_reducible refine dv 32 ?_);refine aJ rfl 137 (.tmp 7) rfl wr.heap.size rfl _ x.toArray (0,0) _ sN.o underlying137 rfl (by rw[ba];exact GW.o) ?_)|((with_reducible refine cP 137 ?_);refine hZ rfl 137 (.tmp 33) (.tmp 32) rfl bk (m*12) x.toArray rfl rfl Wh.o (by rw[ba];exact GW.o) (bU nz.o) ?_)|fail)
      go_roundw
      case rel =>
       refine⟨m+1,n+1,ys.set m x,bf,bf,ab,ab,by rw[dW];exact Mv.o,eU,?_,?_,od⟩
       ·rw[dT (l:=ys.set m x) (List.getElem?_set_self (by rw[Mv.o];omega)),fV (ay m),dT dL.o,cE,HT.o];simp[qk]
       ·rw[fW ab];have e:=aq (List.drop 1) HD.o;simpa[ep]using e
      case measure=>simp[intOf];omega
     ·rw[jA.o]at fk;go_wp2_with fail
      go_roundw
      case rel =>
       refine⟨m,n+1,ys,rfl,bf,ab,ab,Mv.o,fk,?_,?_,qi⟩
       ·rw[dT dL.o,cE,HT.o];simp[qk]
       ·have e:=aq (List.drop 1) HD.o;simpa[ep]using e
      case measure=>simp[intOf];omega
   ·have rD:n=xs.length:=ab;subst rD;have eX:=O (show ys.take m=xs.filter (fun x=>!p x)by have h:=HT.o;rw[aD (ay _)]at h;exact h);have si:(ys.take m).length=m:=by rw[aL,jA.o];omega
    have za:=O (show(xs.filter (fun x=>!p x)).length=m by rw[<-eX.o];exact si);have hcut:=cO.cut (i:=m) (by rw[jA.o];omega) (g:=bk) (cap:=cp) (by rw[jA.o]);have hle:(xs.length-m)*12+m*12<=cp*12:=by rw[<-dC];exact bN _ ab
    have BC:(Builtin.zeroCells Ew (xs.length-m)).toList.length=(xs.length-m)*12:=by simp[Builtin.zeroCells]
    have xc:=fun ty=>jn (P:=prog) wr 119 137 ty Ew underlying119 (fun w=>af) ag OO bk (m*12) (xs.length-m) (cp-m) ab (by
     have:=cO.there (g:=bk) (cap:=cp) (by rw[jA.o]) (o:=m*12) (n:=(xs.length-m)*12) ab;exact this)
    have xV:=hcut.behind (o:=m*12) (vs:=(Builtin.zeroCells Ew (xs.length-m)).toList) (by rw[si];exact ay _) (g:=bk) (cap:=cp) (by rw[si]) (by rw[BC];omega);have od:=cN.step (fB (ae (one bk) wr) (fun _=>rfl) (Builtin.zeroCells Ew (xs.length-m)).toList (m*12)) (fun _ _ h=>h);clear cO rC hcut BC si hle jA;go_wp2_with fail
    go_ret;rw[za.o, <-eX.o];exact⟨_,_,rfl,xV,od.mono (fun k _ h=>by have e:k=bk:=h;rw[e];rfl),rfl⟩
theorem aco:∃i0:TypeInfo,prog.info? 137=some i0/\i0.size=12:=by
 have h:(prog.info? 137).map (·.size)=some 12:=af;cases hq:prog.info? 137 with
 |none=>rw[hq]at h;cases h
 |some i=>rw[hq]at h;exact⟨i,rfl,by simpa using h⟩
theorem Ql(b:Nat)(bk cp i j:Nat)(xs:cU)(w:World)(hv:OwnRows b 137 12 w (.slice (some ⟨bk,0,none⟩) xs.length cp) xs)(Px:i<j)(hj:j<=xs.length) :
  aC 146 #[.slice (some ⟨bk,0,none⟩) xs.length cp,.int .i64 i,.int .i64 j] w fun e w'=>e=.returned (.slice (some ⟨bk,0,none⟩) (i+(xs.length-j)) cp)/\OwnRows b 137 12 w' (.slice (some ⟨bk,0,none⟩) (i+(xs.length-j)) cp) (xs.take i++xs.drop j)/\Fr (one bk) w w':=by
 obtain⟨i0,ri,kI⟩:=aco;obtain⟨Bu,cur,ub,q1,q2,q3,q4,q5,q6⟩:=hv.open (g:=bk) rfl;cases ub;unfold maxLen at q4;have dL:=hv.at;have dX:=hv.1;obtain⟨news,kr⟩:∃news,news=(xs.drop j).flatten:=⟨_,rfl⟩;have hdr:∀x∈xs.drop j,x.length=12/\∀u∈x,u.oneCell'=true:=fun x hx=>dX x (ey hx);have hlen:news.length=(xs.length-j)*12:=by rw[kr,gi (fun x hx=>(hdr x hx).1),bH]
 obtain⟨A,hA,Mw⟩:∃A:Addr,(if cp=j then some (⟨bk,0,none⟩:Addr)else some ⟨bk,j*12,none⟩)=some A/\Hid (∀t u,news[t]?=some u->w.drew.cell? (A.add t)=some u):=by
  by_cases h:cp=j
  ·refine⟨⟨bk,0,none⟩,by simp[h],fun t u hu=>?_⟩
   have h0:news.length=0:=by rw[hlen];have:xs.length-j=0:=by omega
                             rw[this,gY]
   rw[dF.1 h0]at hu;simp at hu
  ·refine⟨⟨bk,j*12,none⟩,by simp[h],fun t u hu=>?_⟩;have ht:t<(xs.length-j)*12:=by
    have:=(List.getElem?_eq_some_iff.1 hu).1;omega
   have lD:xs.flatten[j*12+t]?=some u:=by
    have e:xs.flatten=(xs.take j).flatten++(xs.drop j).flatten:=by rw[<-ec,fE]
    have hl:(xs.take j).flatten.length=j*12:=by rw[gi (fun x hx=>(dX x (ew hx)).1),aL,dJ hj]
    rw[e,List.getElem?_append_right ab,hl,show j*12+t-j*12=t from ab, <-kr];exact hu
   have hjt:j*12+t<xs.length*12:=by
    have:(xs.length-j)*12+j*12=xs.length*12:=by rw[<-dC];congr 1;omega
    omega
   rw[<-q6,List.getElem?_take_of_lt hjt]at lD;have B8:cur[j*12+t]?=some u:=by simpa using lD
   have ea:(Addr.add ⟨bk,j*12,none⟩ t)=⟨bk,j*12+t,none⟩:=by unfold Addr.add;split<;>simp_all
   rw[ea];show w.cell? _=some u;simp[World.cell?,q2,B8]
 have s1:=O hlen;have s2:=O (show∀u∈news,u.oneCell'=true by
  intro u hu;rw[kr]at hu;obtain⟨x,hx,Ft⟩:=fD.1 hu;exact(hdr x hx).2 u Ft)
 have s3:=O (show∀t,t<news.length->(w.drew.cell? ⟨bk,0+i*12+t,none⟩).isSome=true/\w.drew.frozen? ⟨bk,0+i*12+t,none⟩=false by
  intro t ht;rw[bj];have hle:i*12+(xs.length-j)*12<=cp*12:=by rw[<-dC];exact bN _ ab
  have:=hv.there (g:=bk) (cap:=cp) rfl (o:=i*12) (n:=(xs.length-j)*12) hle t ab;exact this)
 have TK:OwnRows b 137 12 w.drew (.slice (some ⟨bk,0,none⟩) xs.length cp) xs:=hv;have p9:=TK.CA (i:=i) (ys:=xs.drop j) ab hdr (g:=bk) (cap:=cp) rfl (by rw[bH];omega);rw[bH, <-kr]at p9;have xW:Fr (one bk) w (w.drew.setCells bk (i*12) news):=((ae (one bk) w).drew).setCells (fun _=>rfl) _ _;obtain⟨W1,Bz⟩:∃W1,W1=w.drew.setCells bk (0+i*12) news:=⟨_,rfl⟩;have HW:=O Bz;rw[bj]at Bz;rw[<-Bz]at p9 xW
 have rD:(xs.take i++xs.drop j).length=i+(xs.length-j):=by rw[aM,aL,bH];omega
 have hm:i+(xs.length-j)<xs.length:=ab;have BC:(Builtin.zeroCells Ew (xs.length-(i+(xs.length-j)))).toList.length=(xs.length-(i+(xs.length-j)))*12:=by simp[Builtin.zeroCells]
 have hle:(i+(xs.length-j))*12+(xs.length-(i+(xs.length-j)))*12<=cp*12:=by rw[<-dC];exact bN _ ab
 have xc:=fun ty=>jn (P:=prog) W1 119 137 ty Ew underlying119 (fun w=>af) ag OO bk ((i+(xs.length-j))*12) (xs.length-(i+(xs.length-j))) (cp-(i+(xs.length-j))) ab (by
  have:=p9.there (g:=bk) (cap:=cp) (by rw[rD]) (o:=(i+(xs.length-j))*12) (n:=(xs.length-(i+(xs.length-j)))*12) hle;exact this)
 have xV:=p9.behind (o:=(i+(xs.length-j))*12) (vs:=(Builtin.zeroCells Ew (xs.length-(i+(xs.length-j)))).toList) (by rw[rD];exact ay _) (g:=bk) (cap:=cp) (by rw[rD]) (by rw[BC];omega);have od:=xW.step (fB (ae (one bk) W1) (fun _=>rfl) (Builtin.zeroCells Ew (xs.length-(i+(xs.length-j)))).toList ((i+(xs.length-j))*12)) (fun _ _ h=>h);have hne:((i:Int)==(j:Int))=false:=by rw[aK];omega
 have ab3:i<=cp:=ab;have ab4:j<=cp:=ab;have HA:=O hA;clear Bz p9 TK xW kr hlen hdr dX dL rD BC hle q2 q5 q6 hv;go_enter func146,ntmps146;go_wp2_with fail
 have hA:=HA.o;go_region_law (refine step_append_room rfl (.tmp 22) (.tmp 25) 119 rfl 137 i0 12 underlying119 ri kI bk 0 i cp (by simp[Act.eval,Act.put]) A (xs.length-j) (cp-j) news (by simp[Act.eval,Act.put]) s1.o Mw.out s2.o ab s3.o ?_;rw[<-HW.o])
 all_goals
  go_wp2_with fail
  go_ret;exact⟨rfl,xV,od⟩
theorem X_:(prog.info? 137).map (fun i=>(i.zero,i.size,i.bytes))=some (some (.agg #[.bool false,.string ⟨#[]⟩,.int .i64 0,.bool false,.string ⟨#[]⟩,.int .i64 0,.string ⟨#[]⟩,.string ⟨#[]⟩,.bool false,.string ⟨#[]⟩,.string ⟨#[]⟩,.int .i64 0]),12,144):=af
theorem X'(v:Value)(xs:cU)(w:World)(h:eb 12 w v xs)(hl:xs.length<=1000000000) :
  aC 100 #[v] w fun e w'=>∃v',e=.returned v'/\OwnRows w.heap.size 137 12 w' v' xs/\Fr aW w w':=by
 obtain⟨a,c,hv⟩:=h.form;subst hv;have q22:∀(w:World) (a:eZ) (n c n' c':Nat),(binOp .eql 119 (.slice a n c) (.slice none n' c')).run prog w=.ok (.bool a.isNone) w:=fun w a n c n' c'=>Lib.run_eql_slice_nil w _ _ a n c n' c' underlying119;cases a with
 |none =>
  obtain⟨rfl,rfl⟩:xs=[]/\c=0:=by
   rcases h.2 with ⟨a',c',hv,hs,hc⟩|⟨bk,o',c',hf,_⟩
   ·injection hv with e1 e2 e3
    exact⟨hs,e3.trans (hc e1.symm)⟩
   ·injection hf with e1;cases e1
  go_enter func100,ntmps100;go_wp2;go_ret;exact⟨_,rfl,dr _ _ _ _,ae _ _⟩
 |some ad =>
  have HX:=h.1;have HC:=O (show∀j u,xs.flatten[j]?=some u->w.cell? (ad.add j)=some u from fun j u hj=>by
   rcases h.2 with ⟨_,_,_,e,_⟩|⟨bk,o',c',hf,g1,g2,g3,g4⟩
   ·subst e;simp at hj
   ·cases hf;have za:xs.flatten.length=xs.length*12:=gi (fun x hx=>(HX x hx).1);have hjl:=(List.getElem?_eq_some_iff.1 hj).1;have hd:j/12<xs.length:=ab;have hm:j%12<12:=ab;have hx:(xs[j/12]).length=12:=(HX _ (bL hd)).1;have e1:=ra (k:=12) (xs:=xs) (fun x hx=>(HX x hx).1) (j:=j/12) (List.getElem?_eq_getElem hd) (i:=j%12) (List.getElem?_eq_getElem (by rw[hx];exact hm));rw[Nat.div_add_mod']at e1
    rw[e1]at hj;cases hj;have:=g4 (j/12) _ (List.getElem?_eq_getElem hd) (j%12) _ (List.getElem?_eq_getElem (by rw[hx];exact hm));have ea:(Addr.add ⟨bk,o',none⟩ j)=⟨bk,o'+j,none⟩:=by unfold Addr.add;split<;>simp_all
    rw[ea, <-this]
    congr 2
    omega)
  have HF:=O (show xs.flatten.length=xs.length*12 from gi (fun x hx=>(HX x hx).1));have Ud:=O HX;obtain⟨i0,hi,oZ,kI,kS⟩:=info_parts X_;clear HX h;go_enter func100,ntmps100
  go_wp2_with (at_builtin;refine wpList_append_own _ rfl _ _ 119 rfl w.heap.size 137 i0 (.agg #[.bool false,.string ⟨#[]⟩,.int .i64 0,.bool false,.string ⟨#[]⟩,.int .i64 0,.string ⟨#[]⟩,.string ⟨#[]⟩,.bool false,.string ⟨#[]⟩,.string ⟨#[]⟩,.int .i64 0]) 12 144 underlying119 hi oZ kI kS rfl ag _ _ _ rfl (World.ownsRow_made w #[] 0 (ay _) (aS _) rfl) ad xs.length c xs.flatten rfl HF.o ?qc2 ?qc3 ?qc4 ?qc5 ?qc6 ?_)
  case qc2 =>
   intro j u hj;exact Lib.cell?_alloc_some _ (HC.o j u hj)
  case qc3 =>
   intro u hu;obtain⟨x,hx,Ft⟩:=fD.1 hu;exact(Ud.o x hx).2 u Ft
  case qc4=>unfold maxLen;omega
  case qc5=>omega
  case qc6=>simp
  intro v' w1 cO jk Jc;go_wp2;go_ret;refine⟨v',rfl,⟨Ud.o,by simpa using cO⟩,fe (((Below.refl _ w).alloc (ay _) _).grown jk aQ (by intro k hk;simp[Value.ownBlock]at hk;omega))⟩
theorem YP:(prog.info? 105).map (fun i=>(i.zero,i.size,i.bytes))=some (some (.agg #[.bool false,.string ⟨#[]⟩,.int .i64 0,.int .i64 0]),4,40):=af
theorem YQ(v:Value)(xs:cU)(w:World)(h:eb 4 w v xs)(hl:xs.length<=1000000000) :
  aC 41 #[v] w fun e w'=>∃v',e=.returned v'/\OwnRows w.heap.size 105 4 w' v' xs/\Fr aW w w':=by
 obtain⟨a,c,hv⟩:=h.form;subst hv;have q22:∀(w:World) (a:eZ) (n c n' c':Nat),(binOp .eql 92 (.slice a n c) (.slice none n' c')).run prog w=.ok (.bool a.isNone) w:=fun w a n c n' c'=>Lib.run_eql_slice_nil w _ _ a n c n' c' underlying92;cases a with
 |none =>
  obtain⟨rfl,rfl⟩:xs=[]/\c=0:=by
   rcases h.2 with ⟨a',c',hv,hs,hc⟩|⟨bk,o',c',hf,_⟩
   ·injection hv with e1 e2 e3
    exact⟨hs,e3.trans (hc e1.symm)⟩
   ·injection hf with e1;cases e1
  go_enter func41,ntmps41;go_wp2;go_ret;exact⟨_,rfl,dr _ _ _ _,ae _ _⟩
 |some ad =>
  have HX:=h.1;have HC:=O (show∀j u,xs.flatten[j]?=some u->w.cell? (ad.add j)=some u from fun j u hj=>by
   rcases h.2 with ⟨_,_,_,e,_⟩|⟨bk,o',c',hf,g1,g2,g3,g4⟩
   ·subst e;simp at hj
   ·cases hf;have za:xs.flatten.length=xs.length*4:=gi (fun x hx=>(HX x hx).1);have hjl:=(List.getElem?_eq_some_iff.1 hj).1;have hd:j/4<xs.length:=ab;have hm:j%4<4:=ab;have hx:(xs[j/4]).length=4:=(HX _ (bL hd)).1;have e1:=ra (k:=4) (xs:=xs) (fun x hx=>(HX x hx).1) (j:=j/4) (List.getElem?_eq_getElem hd) (i:=j%4) (List.getElem?_eq_getElem (by rw[hx];exact hm));rw[Nat.div_add_mod']at e1;rw[e1]at hj
    cases hj;have:=g4 (j/4) _ (List.getElem?_eq_getElem hd) (j%4) _ (List.getElem?_eq_getElem (by rw[hx];exact hm));have ea:(Addr.add ⟨bk,o',none⟩ j)=⟨bk,o'+j,none⟩:=by unfold Addr.add;split<;>simp_all
    rw[ea, <-this]
    congr 2
    omega)
  have HF:=O (show xs.flatten.length=xs.length*4 from gi (fun x hx=>(HX x hx).1));have Ud:=O HX;obtain⟨i0,hi,oZ,kI,kS⟩:=info_parts YP;clear HX h;go_enter func41,ntmps41
  go_wp2_with (at_builtin;refine wpList_append_own _ rfl _ _ 92 rfl w.heap.size 105 i0 (.agg #[.bool false,.string ⟨#[]⟩,.int .i64 0,.int .i64 0]) 4 40 underlying92 hi oZ kI kS rfl ag _ _ _ rfl (World.ownsRow_made w #[] 0 (ay _) (aS _) rfl) ad xs.length c xs.flatten rfl HF.o ?qc2 ?qc3 ?qc4 ?qc5 ?qc6 ?_)
  case qc2 =>
   intro j u hj;exact Lib.cell?_alloc_some _ (HC.o j u hj)
  case qc3 =>
   intro u hu;obtain⟨x,hx,Ft⟩:=fD.1 hu;exact(Ud.o x hx).2 u Ft
  case qc4=>unfold maxLen;omega
  case qc5=>omega
  case qc6=>simp
  intro v' w1 cO jk Jc;go_wp2;go_ret;refine⟨v',rfl,⟨Ud.o,by simpa using cO⟩,fe (((Below.refl _ w).alloc (ay _) _).grown jk aQ (by intro k hk;simp[Value.ownBlock]at hk;omega))⟩
def adV(w:World)(p:aX->Bool)(xs:cU)(i:Value)(wr:World):Prop :=
 ∃k:Nat,k<=xs.length/\i=.int .i64 k/\(xs.take k).any p=false/\Fr aW w wr
theorem Hy(g:Nat)(cap:bS)(p:aX->Bool)(v:Value)(xs:cU)(w:World)(eg:∀args w,(callFunc g args).run prog w=.ok (.enter g args) w)(hp:gF aW w g cap p xs)(hv:eb 24 w v xs) :
  aC 36 #[v,.func (.func g) #[] cap] w fun e w'=>e=.returned (.int .i64 (lH p xs 0))/\Fr aW w w':=by
 obtain⟨av,cv,fT⟩:=hv.form;subst fT;have dX:=O hv.1;go_enter func36,ntmps36;go_wp2;go_loopw[8] (adV w p xs) (fun i _=>xs.length-(intOf i).toNat)
 case atStart=>exact⟨0,aS _,rfl,rfl,ae _ _⟩
 case round =>
  obtain⟨k,hk,rfl,hn,cN⟩:=hrel;have HN:=O hn;clear hn;by_cases fx:k<xs.length
  ·rcases(hv.iY cN).2 with ⟨_,_,_,e,_⟩|⟨bk,of,c,hf,h1,h2,h3,h4⟩
   ·rw[e]at fx;exact absurd fx (cq _)
   ·cases hf;unfold maxLen at h2;have dL:=O (List.getElem?_eq_getElem fx);have hcell:=h4 k _ dL.o;have gM:=O (bL fx);generalize xs[k]=x at dL hcell gM;have fy:=O (hp x gM.o wr cN);have lr:=(dX.o x gM.o).1;clear h4;cases qk:p x
    ·have pN:=O (any_take_succ dL.o HN.o qk);go_wp2_with (first|((with_reducible refine dv 15 ?_);refine a_ rfl 50 (.tmp 14) rfl bk (of+k*24) rfl x _ hcell underlying50 rfl (VU lr) ?_)|fail)
     refine fy.o.mono ?_;rintro e w1⟨rfl,dn⟩;rw[qk];go_wp2;go_roundw
     case rel=>exact⟨k+1,ab,bf,pN.o,cN.trans dn⟩
     case measure=>simp[intOf];omega
    ·have eX:=O (oF (i:=0) dL.o qk HN.o);go_wp2_with (first|((with_reducible refine dv 15 ?_);refine a_ rfl 50 (.tmp 14) rfl bk (of+k*24) rfl x _ hcell underlying50 rfl (VU lr) ?_)|fail)
     refine fy.o.mono ?_;rintro e w1⟨rfl,dn⟩;rw[qk];go_wp2;go_ret;rw[eX.o,bj];exact⟨rfl,cN.trans dn⟩
  ·have eX:=O (show lH p xs 0= -1 from j8 (by have h:=HN.o;rw[aD ab]at h;exact h));go_wp2;go_ret;rw[eX.o];exact⟨rfl,cN⟩
theorem BM(g:Nat)(cap:bS)(p:aX->Bool)(v:Value)(xs:cU)(w:World)(eg:∀args w,(callFunc g args).run prog w=.ok (.enter g args) w)(hp:gF aW w g cap p xs)(hv:eb 24 w v xs) :
  aC 23 #[v,.func (.func g) #[] cap] w fun e w'=>e=.returned (.bool (xs.any p))/\Fr aW w w':=by
 have hb:=O (ru p xs 0);go_enter func23,ntmps23;go_wp2_with fail
 refine(Hy g cap p v xs w eg hp hv).mono ?_;rintro e w1⟨rfl,dn⟩;go_wp2;go_ret;exact⟨ft hb.o,dn⟩
def adW(w:World)(p:aX->Bool)(xs:cU)(i:Value)(wr:World):Prop :=
 ∃k:Nat,k<=xs.length/\i=.int .i64 k/\(xs.take k).any p=false/\Fr aW w wr
theorem Hz(g:Nat)(cap:bS)(p:aX->Bool)(v:Value)(xs:cU)(w:World)(eg:∀args w,(callFunc g args).run prog w=.ok (.enter g args) w)(hp:gF aW w g cap p xs)(hv:eb 22 w v xs) :
  aC 37 #[v,.func (.func g) #[] cap] w fun e w'=>e=.returned (.int .i64 (lH p xs 0))/\Fr aW w w':=by
 obtain⟨av,cv,fT⟩:=hv.form;subst fT;have dX:=O hv.1;go_enter func37,ntmps37;go_wp2;go_loopw[8] (adW w p xs) (fun i _=>xs.length-(intOf i).toNat)
 case atStart=>exact⟨0,aS _,rfl,rfl,ae _ _⟩
 case round =>
  obtain⟨k,hk,rfl,hn,cN⟩:=hrel;have HN:=O hn;clear hn;by_cases fx:k<xs.length
  ·rcases(hv.iY cN).2 with ⟨_,_,_,e,_⟩|⟨bk,of,c,hf,h1,h2,h3,h4⟩
   ·rw[e]at fx;exact absurd fx (cq _)
   ·cases hf;unfold maxLen at h2;have dL:=O (List.getElem?_eq_getElem fx);have hcell:=h4 k _ dL.o;have gM:=O (bL fx);generalize xs[k]=x at dL hcell gM;have fy:=O (hp x gM.o wr cN);have lr:=(dX.o x gM.o).1;clear h4;cases qk:p x
    ·have pN:=O (any_take_succ dL.o HN.o qk);go_wp2_with (first|((with_reducible refine dv 15 ?_);refine a_ rfl 33 (.tmp 14) rfl bk (of+k*22) rfl x _ hcell underlying33 rfl (VP lr) ?_)|fail)
     refine fy.o.mono ?_;rintro e w1⟨rfl,dn⟩;rw[qk];go_wp2;go_roundw
     case rel=>exact⟨k+1,ab,bf,pN.o,cN.trans dn⟩
     case measure=>simp[intOf];omega
    ·have eX:=O (oF (i:=0) dL.o qk HN.o);go_wp2_with (first|((with_reducible refine dv 15 ?_);refine a_ rfl 33 (.tmp 14) rfl bk (of+k*22) rfl x _ hcell underlying33 rfl (VP lr) ?_)|fail)
     refine fy.o.mono ?_;rintro e w1⟨rfl,dn⟩;rw[qk];go_wp2;go_ret;rw[eX.o,bj];exact⟨rfl,cN.trans dn⟩
  ·have eX:=O (show lH p xs 0= -1 from j8 (by have h:=HN.o;rw[aD ab]at h;exact h));go_wp2;go_ret;rw[eX.o];exact⟨rfl,cN⟩
theorem BN(g:Nat)(cap:bS)(p:aX->Bool)(v:Value)(xs:cU)(w:World)(eg:∀args w,(callFunc g args).run prog w=.ok (.enter g args) w)(hp:gF aW w g cap p xs)(hv:eb 22 w v xs) :
  aC 25 #[v,.func (.func g) #[] cap] w fun e w'=>e=.returned (.bool (xs.any p))/\Fr aW w w':=by
 have hb:=O (ru p xs 0);go_enter func25,ntmps25;go_wp2_with fail
 refine(Hz g cap p v xs w eg hp hv).mono ?_;rintro e w1⟨rfl,dn⟩;go_wp2;go_ret;exact⟨ft hb.o,dn⟩
def bA(l:Bs):ai:=⟨l.toArray⟩
theorem fK(l:Bs):(bA l).data.toList=l:=by unfold bA;simp
theorem Sv(s:ai):bA s.data.toList=s:=by unfold bA;simp
def j5(ps:List jh)(name:Bs):Option Bs:=(ps.find? fun p=>dG p.1 name).map (·.2)
def vr:Bs:=[114,101,97,108,109]
def Gm:Bs:=[98,97,115,105,99]
def BS:Bs:=[100,105,103,101,115,116]
def yy:Bs:=[97,108,103,111,114,105,116,104,109]
def xC:Bs:=[77,68,53]
def Gn:Bs:=[83,72,65,45,50,53,54]
def yz:Bs:=[45,115,101,115,115]
def vt:Bs:=[110,111,110,99,101]
def I7:Bs:=[113,111,112]
def lR:Bs:=[97,117,116,104]
def pR:Bs:=[97,117,116,104,45,105,110,116]
def lS:Bs:=[111,112,97,113,117,101]
def Aa:Bs:=[115,116,97,108,101]
def lG:Bs:=[116,114,117,101]
def qA:Bs:=[100,111,109,97,105,110]
def Sw(s:Bs):Option (Int×Bool) :=
 if dG s xC then some (2,false)
 else if dG s (xC++yz)then some (2,true)
 else if dG s Gn then some (3,false)
 else if dG s (Gn++yz)then some (3,true)
 else none
def N4(l:List Bs):Option Bs :=
 if l.any (fun w=>dG w lR)then some lR else if l.any (fun w=>dG w pR)then some pR else none
def Sx(q:Bs):Option Bs :=
 match gP q with
 | .error _=>none
 | .ok l=>if 40<l.length then none else N4 l
def Sy(ps:List jh):Option Bs :=
 match j5 ps I7 with
 |none=>some []
 |some q=>Sx q
def Gp(d:Bs):List Bs:=((dU 32 d).filter fun p=>LH 47 p).map ov
def mR(x:mZ):Option (fY bE) :=
 match j5 x.params vr with
 |none=>none
 |some aP =>
  if dG x.scheme Gm then some ⟨1,bA aP,bA [],bA [],false,bA [],false,[]⟩else
  match Sw ((j5 x.params yy).getD xC)with
  |none=>none
  |some (k,cD) =>
   if !dG x.scheme BS then none else
   match j5 x.params vt with
   |none=>none
   |some bz =>
    match Sy x.params with
    |none=>none
    |some q=>some ⟨k,bA aP,bA bz,bA ((j5 x.params lS).getD []),cD,bA q,dG ((j5 x.params Aa).getD []) lG,(Gp ((j5 x.params qA).getD [])).map bA⟩
def N5:fY bE:=⟨0,bA [],bA [],bA [],false,bA [],false,[]⟩
def py(a:fY bE)(x:mZ):fY bE :=
 match mR x with
 |none=>a
 |some b=>if a.scheme<b.scheme then b else a
def iW(l:List mZ):fY bE:=l.foldl py N5
theorem LK(l:List mZ)(x:mZ):iW (l++[x])=py (iW l) x:=by simp[iW]
