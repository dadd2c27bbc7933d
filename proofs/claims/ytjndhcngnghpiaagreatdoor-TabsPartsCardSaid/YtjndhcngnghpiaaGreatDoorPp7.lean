/- Lemmas for the law's walk. -/
import Derived.Test.YtjndhcngnghpiaaGreatDoorPp6
set_option maxRecDepth 100000
set_option maxHeartbeats 16000000
set_option linter.unusedSimpArgs false
namespace Go.Proofs.YtjndhcngnghpiaaGreatDoor
open Go.Proofs.Tryz
open Go.RowKit
variable {w W wc A B:World} {g k:Nat} {laid:List (String×DataW Unit)} {x:ai} {pre:List ai}
theorem NV{P:Program}{W:World}{x:String×DataW Unit}:∀ {laid:List (String×DataW Unit)},laidMet P laid W->x∈laid->∃r,laidMet P (x :: r) W
 |y :: l,h,hm=>by
  rcases bE.1 hm with rfl|hm
  ·exact⟨l,h⟩
  ·exact NV (laidMet.tail h) hm
theorem rj{P:Program}{W:World}{laid:List (String×DataW Unit)}{name:String}{k:IntKind}{zs:List Int}{g:Nat}{t e:TypeId}{n:Nat}
  (h:laidMet P laid W)(hm:(name,Lib.tabData k zs)∈laid)
  (hg:P.globalNamed name=some g)(Re:(P.globals[g]?).map (·.type)=some t)(ht:P.underlying t=some (.array n e))(he:P.underlying e=some (.int k))(hce:P.cellsOf e=1)(hct:P.cellsOf t=n):Lib.TabIs P W name k zs:=by
 obtain⟨r,hr⟩:=NV h hm;exact Lib.tabIs_of_head hg Re ht he hce hct hr
theorem Xj{i:Nat}{v:Value}(h:w.cell? ⟨g,i,none⟩=some v):g<w.heap.size:=by
 cases hb:w.heap[g]? with
 |none=>simp[World.cell?,hb]at h
 |some o=>exact bg hb
theorem vF{P:Program}{name:String}{k:IntKind}{zs:List Int}(hT:Lib.TabIs P W name k zs)(hg:P.globalNamed name=some g)(hz:0<zs.length):oz W g k zs:=by
 have hc:∀(i:Nat) z,zs[i]?=some z->W.cell? ⟨g,i,none⟩=some (.int k z):=fun i z hi=>by
  obtain⟨hl,he⟩:=List.getElem?_eq_some_iff.1 hi;rw[hT.cell hg i hl,List.getD_eq_getElem?_getD,hi];rfl
 exact⟨Xj (hc 0 _ (List.getElem?_eq_getElem hz)),hc⟩
theorem Jf(h:laidMet prog laid W)(hm:("gatepost/api.Sines",Lib.tabData .u32 Cu)∈laid/\("gatepost/sum.turns",Lib.tabData .i64 (oy.map Int.ofNat))∈laid):tY W :=
 ⟨vF (rj h hm.1 (g:=3) af af underlying295 underlying292 af af) af ag,
  vF (rj h hm.2 (g:=4) af af underlying301 underlying3 af af) af ag⟩
theorem Jg(h:laidMet prog laid W)(hm:("gatepost/api.Roots",Lib.tabData .u32 Cy)∈laid/\("gatepost/api.Begin",Lib.tabData .u32 SC)∈laid):tZ W :=
 ⟨vF (rj h hm.1 (g:=2) af af underlying295 underlying292 af af) af ag,
  vF (rj h hm.2 (g:=1) af af underlying293 underlying292 af af) af ag⟩
def Po(c:UInt8):Bool:=c<32||c==127
def lg(s:ai):Bool:=s.data.toList.all fun c=>!Po c
def CD(user pass:ai):ai:=⟨([66,97,115,105,99,32]++uR (user.data.toList++[58]++pass.data.toList)).toArray⟩
def mI(user pass:ai)(e:Ending):Prop :=
 if 0<=Lib.indexByte user.data.toList 58 then e=.returned (.tuple #[.string ⟨#[]⟩,.iface 82 (.int .i64 1)])
 else if lg user&&lg pass then e=.returned (.tuple #[.string (CD user pass),.nilIface])
 else e=.returned (.tuple #[.string ⟨#[]⟩,.iface 82 (.int .i64 3)])
def afr(user pass:ai)(w:World)(i:Value)(wr:World):Prop:=∃k:Nat,k<=2/\i=.int .i64 k/\(0<k->lg user=true)/\(1<k->lg pass=true)/\Fr aX w wr
def ak_(s:ai)(w:World)(i:Value)(wr:World):Prop:=∃k:Nat,k<=s.size/\i=.int .i64 k/\(s.data.toList.take k).all (fun c=>!Po c)=true/\Fr aX w wr
theorem Gh{a b:ai}(h:[a,b][k]?=some x):k=0/\x=a\/k=1/\x=b:=by
 match k,h with
 |0,h=>exact .inl ⟨rfl,by simpa using h.symm⟩
 |1,h=>exact .inr ⟨rfl,by simpa using h.symm⟩
 |k+2,h=>simp at h
theorem EO(user pass:ai)(w:World)(hu:user.size<=100000)(hp:pass.size<=100000) :
  aE 71 #[.agg #[.string user,.string pass]] w fun e w'=>mI user pass e/\Fr aX w w':=by
 have kf:Fr aX w (w.alloc (.cells #[.string user,.string pass] 31)):=(ae aX w).alloc _;have pG:=aC w (.cells #[.string user,.string pass] 31);by_cases hc:0<=Lib.indexByte user.data.toList 58
 ·have HP:=O (show∀e,mI user pass e↔e=.returned (.tuple #[.string ⟨#[]⟩,.iface 82 (.int .i64 1)])from fun e=>by unfold mI;rw[aB hc]);have hd:decide (0<=Lib.indexByte user.data.toList 58)=true:=bD hc;go_enter func71,ntmps71;go_wp2_with fail
  refine(strings_Contains_one user 58 _).mono ?_;rintro e u1⟨rfl,rfl⟩;rw[hd];go_wp2;go_ret2;exact⟨(HP.o _).2 rfl,kf⟩
 ·have hd:decide (0<=Lib.indexByte user.data.toList 58)=false:=bf hc;have Be:=O (show(lg user&&lg pass)=false->mI user pass (.returned (.tuple #[.string ⟨#[]⟩,.iface 82 (.int .i64 3)]))from fun h=>by unfold mI;rw[ay hc,ay (by simp[h])]);have LG:=O (show(lg user&&lg pass)=true->mI user pass (.returned (.tuple #[.string (CD user pass),.nilIface]))from fun h=>by unfold mI;rw[ay hc,aB h]);have lV:=O kf
  have HCA:=O (show∀U,Fr aX (w.alloc (.cells #[.string user,.string pass] 31)) U->U.cell? ⟨w.heap.size,0,none⟩=some (.string user)/\U.cell? ⟨w.heap.size,1,none⟩=some (.string pass)from fun U hU=>by
   have sH:=hU.keep pG id;simp[World.cell?,sH])
  have Gi:Fr aX w ((w.alloc (.cells #[.string user,.string pass] 31)).alloc (.cells #[.string user,.string pass] 9)):=kf.alloc _;have wU:∀U,Fr aX ((w.alloc (.cells #[.string user,.string pass] 31)).alloc (.cells #[.string user,.string pass] 9)) U ->
    U.cell? ⟨w.heap.size,0,none⟩=some (.string user)/\U.cell? ⟨w.heap.size,1,none⟩=some (.string pass)/\∀(k:Nat) x,[user,pass][k]?=some x->U.cell? ⟨w.heap.size+1,k,none⟩=some (.string x):=fun U hU=>by
   have l_:=hU.keep (((ae aX _).alloc _).keep pG id) id;have sH:=hU.keep (aC (w.alloc (.cells #[.string user,.string pass] 31)) (.cells #[.string user,.string pass] 9)) id;rw[bK]at sH;refine⟨by simp[World.cell?,l_],by simp[World.cell?,l_],fun k x hx=>?_⟩;rcases Gh hx with ⟨rfl,rfl⟩|⟨rfl,rfl⟩<;>simp[World.cell?,sH]
  have D1:=O wU;have rm:=O Gi;clear kf pG wU Gi;go_enter func71,ntmps71;go_wp2_with fail
  refine(strings_Contains_one user 58 _).mono ?_;rintro e u1⟨rfl,rfl⟩;rw[hd];go_wp2;obtain⟨wl,DJ⟩:∃wl,wl=(w.alloc (.cells #[.string user,.string pass] 31)).alloc (.cells #[.string user,.string pass] 9):=⟨_,rfl⟩;rw[<-DJ]at D1 rm ⊢;clear DJ;go_loopw[17] (afr user pass wl) (fun i _=>2-(intOf i).toNat)
  case atStart=>exact⟨0,ab,rfl,ab,ab,ae _ _⟩
  case round =>
   obtain⟨k,hk,rfl,oL,dw,cR⟩:=hrel;generalize wr=wo at *
   by_cases sH:k<2
   ·have ak':(k:Int)<2:=ab;obtain⟨s,hs⟩:∃s,[user,pass][k]?=some s:=⟨_,List.getElem?_eq_getElem (by simpa using sH)⟩;have hcell:=(D1.o wo cR).2.2 k s hs;have xl:s.size<=100000:=by rcases Gh hs with ⟨_,rfl⟩|⟨_,rfl⟩<;>assumption
    have SK:=O (show lg s=true->(0<k+1->lg user=true)/\(1<k+1->lg pass=true)from fun h=>by
     rcases Gh hs with ⟨rfl,rfl⟩|⟨rfl,rfl⟩
     ·exact⟨fun _=>h,fun h=>ab⟩
     ·exact⟨fun _=>oL ab,fun _=>h⟩)
    have Zj:=O (show lg s=false->(lg user&&lg pass)=false from fun h=>by
     rcases Gh hs with ⟨rfl,rfl⟩|⟨rfl,rfl⟩<;>simp[h])
    clear hs oL dw;go_wp2;go_loopw[23] (ak_ s wl) (fun i _=>s.size-(intOf i).toNat)
    case atStart=>exact⟨0,ab,rfl,rfl,cR⟩
    case round =>
     obtain⟨j,hj,rfl,iH,km⟩:=hrel;by_cases hj2:j<s.size
     ·have ala:(j:Int)<(s.size:Int):=ab;have qC:=byte_at s j hj2;by_cases hb:Po s[j]=true
      ·have HFI:=O (show lg s=false by
        unfold lg;rw[iX];exact⟨s[j],cL qC,by simp[hb]⟩)
       have hor:s[j].toNat<32\/s[j].toNat=127:=by
        unfold Po at hb;simp only[Bool.or_eq_true,dM,dP]at hb;rcases hb with h|h
        ·exact .inl (UInt8.lt_iff_toNat_lt.1 h)
        ·exact .inr (by rw[h];rfl)
       by_cases h32:s[j].toNat<32
       ·have aft:(s[j].toNat:Int)<32:=ab;go_wp2;go_ret2;exact⟨Be.o (Zj.o HFI.o),rm.o.trans km⟩
       ·have aft:¬(s[j].toNat:Int)<32:=ab;have arv:s[j].toNat=127:=ab;have afu:(s[j].toNat:Int)=127:=ab;go_wp2;go_ret2;exact⟨Be.o (Zj.o HFI.o),rm.o.trans km⟩
      ·have hor:¬s[j].toNat<32/\¬s[j].toNat=127:=by
        unfold Po at hb;simp only[Bool.or_eq_true,dM,dP,not_or]at hb;exact⟨fun h=>hb.1 (UInt8.lt_iff_toNat_lt.2 h),fun h=>hb.2 (iE.1 h)⟩
       obtain⟨o1,o2⟩:=hor;have aft:¬(s[j].toNat:Int)<32:=ab;have afu:¬(s[j].toNat:Int)=127:=ab;have zM:=O (show(s.data.toList.take (j+1)).all (fun c=>!Po c)=true by
        rw[cD,qC,jO,iH];simp[hb])
       clear qC iH;go_wp2;go_roundw
       case rel=>exact⟨j+1,ab,bh,zM.o,km⟩
       case measure=>simp[intOf];omega
     ·have ala:¬(j:Int)<(s.size:Int):=ab;have HFI:=O (show lg s=true by
       unfold lg;rw[aG bH]at iH;exact iH)
      clear iH;go_wp2;go_roundw
      case rel=>exact⟨k+1,ab,bh,(SK.o HFI.o).1,(SK.o HFI.o).2,km⟩
      case measure=>simp[intOf];omega
   ·have ak':¬(k:Int)<2:=ab;have KW:(lg user&&lg pass)=true:=by rw[oL ab,dw ab];rfl
    have HPO:=O (LG.o KW);obtain⟨c0,c1,_⟩:=D1.o wo cR;have sD:¬9223372036854775807<user.size+1:=ab;have jX:¬9223372036854775807<user.size+1+pass.size:=ab;clear oL dw KW;have alb:=O (fun W=>LF (user++⟨#[58]⟩++pass) W (by simp[iT];show user.size+1+pass.size<_;omega));have wJ:=O (show(uR (user++⟨#[58]⟩++pass).data.toList).length<=400000 from by rw[N2];simp[gF];omega)
    have HEQ:=O (show(⟨#[66,97,115,105,99,32]⟩++⟨(uR (user++⟨#[58]⟩++pass).data.toList).toArray⟩:ai)=CD user pass from by
     apply Go.WideShapes.bytes_inj;unfold CD;simp[gF])
    go_wp2_with fail
    refine(alb.o _).mono ?_;rintro e w7⟨rfl,nY⟩;generalize uR (user++⟨#[58]⟩++pass).data.toList=bl at *
    have sJ:¬9223372036854775807<6+bl.length:=by have:=wJ.o;omega
    go_wp2;go_ret2;rw[<-HEQ.o]at HPO;exact⟨HPO.o,(rm.o.trans cR).trans nY⟩
open Go.RowKit Go.Shelf
attribute [local go_sem] Oper.semAt_some
theorem Gk(s sep:ai)(w:World) :
  aE 154 #[.string s,.string sep] w fun e w' =>
   e=.returned (.func (.func 233) #[] #[.pointer (some ⟨w.heap.size+1,0,none⟩),.pointer (some ⟨w.heap.size,0,none⟩),.pointer (some ⟨w.heap.size+2,0,none⟩)]) /\
   w'=((w.alloc (.cells #[.string s] 9)).alloc (.cells #[.string sep] 9)).alloc (.cells #[.int .i64 0] 3):=by
 have VL:aE 202 #[.string s,.string sep,.int .i64 0] w fun e w' =>
   e=.returned (.func (.func 233) #[] #[.pointer (some ⟨w.heap.size+1,0,none⟩),.pointer (some ⟨w.heap.size,0,none⟩),.pointer (some ⟨w.heap.size+2,0,none⟩)]) /\
   w'=((w.alloc (.cells #[.string s] 9)).alloc (.cells #[.string sep] 9)).alloc (.cells #[.int .i64 0] 3):=by
  go_enter func202,ntmps202;go_wp2;go_ret;exact⟨rfl,rfl⟩
 go_enter func154,ntmps154;go_wp2_with fail
 refine VL.mono ?_;rintro e w1⟨rfl,rfl⟩;go_wp2;go_ret;exact⟨rfl,rfl⟩
theorem SX(f:aK->Nat):∀(L:List (aK)) (l:aK),l∈L->f l<=(L.map f).sum
 |a :: L,l,h=>by
  simp only[cA,List.sum_cons];rcases bE.1 h with rfl|h
  ·omega
  ·have:=SX f L l h;omega
theorem LM{c:UInt8}{s:ai}(h:x∈iL c s):x.size<=s.size:=by
 unfold iL at h;obtain⟨l,hl,rfl⟩:=cz.1 h;have h1:=zU c s.data.toList;have h2:l.length+1<=((dY c s.data.toList).map fun p=>p.length+1).sum:=SX (fun p=>p.length+1) _ l hl;have h3:s.data.toList.length=s.size:=aS;show l.toArray.size<=_;simp only[bd];omega
def qH:ai:=⟨#[97,98,99,100,101,102,103,104,105,106,107,108,109,110,111,112,113,114,115,116,117,118,119,120,121,122,48,49,50,51,52,53,54,55,56,57,45]⟩
theorem D3:∀b∈qH.data.toList,b.toNat<128:=cZ
theorem Jn:∀n:Fin 256,qH.data.toList.contains n.val.toUInt8=Iw n.val.toUInt8:=cZ
theorem AL(l:aK):l.all (qH.data.toList.contains ·)=l.all Iw:=by
 congr 1;funext c
 have h:=Jn ⟨c.toNat,c.toNat_lt⟩;simpa using h
def ub(s:ai):Bool:=Nw s.data.toList
def vH(w wc W:World):Prop:=W.heap[w.heap.size]?=some (.cells #[.bool false] 4 (0,0))/\Fr aX w W/\wc.heap.size<=W.heap.size
def Jo(w wc:World)(pre:List ai)(W:World):Prop:=(∀p∈pre,B4 p.data.toList=true)/\vH w wc W
def SY(w wc:World)(pre:List ai)(W:World):Prop:=(∃p∈pre,B4 p.data.toList=false)/\vH w wc W
theorem vH.fr(hz:wc.heap.size=w.heap.size+4)(h:vH w wc A)(hf:Fr (CE (w.heap.size+1) wc.heap.size) A B):vH w wc B :=
 ⟨hf.keep h.1 (by unfold CE;omega),h.2.1.step hf (fun j hj hk=>by unfold CE at hk;omega),aH h.2.2 hf.size⟩
theorem vH.grow(h:vH w wc A)(hf:Fr aX A B):vH w wc B:=⟨hf.keep h.1 id,h.2.1.trans hf,aH h.2.2 hf.size⟩
theorem vH.put(h:vH w wc A):vH w wc (A.setCell ⟨w.heap.size,0,none⟩ (.bool false)) :=
 ⟨by simp[World.setCell,Array.getElem?_modify,h.1],h.2.1.gI (p:=⟨w.heap.size,0,none⟩) (az _) _,by simpa[World.setCell]using h.2.2⟩
theorem Fr.others(h:Fr aX A B):KeepsOthers A B:=⟨h.size,fun _ _ hk _=>h.keep hk id⟩
theorem Fr.abC(h:Fr aX A B)(hk:k+3<=A.heap.size):vG k A B:=fun j _ h2=>h.block j ab id
theorem SZ(h:Jo w wc pre W)(hx:B4 x.data.toList=false)(A:World)(hA:Fr aX W A)(aa:Act) :
  LH (w.heap.size+1) (Jo w wc) (SY w wc) (pre++[x]) W .ret aa (A.setCell ⟨w.heap.size,0,none⟩ (.bool false)) :=
 ⟨hA.others.trans (KeepsOthers.setCell A _ _),⟨x,aS,hx⟩,(h.2.grow hA).put⟩
theorem Pw(hz:wc.heap.size=w.heap.size+4)(h:Jo w wc pre W)(hx:B4 x.data.toList=true)(A:World)(hA:Fr aX W A)(aa:Act) :
  LH (w.heap.size+1) (Jo w wc) (SY w wc) (pre++[x]) W .normal aa A :=
 ⟨hA.others,hA.abC (by have:=h.2.2.2;omega),fun p hp=>by
  rcases bO.1 hp with hp|hp
  ·exact h.1 p hp
  ·rw[dh]at hp;subst hp;exact hx,h.2.grow hA⟩
theorem S_(s:ai)(w:World)(hs:s.size<100000) :
  aE 97 #[.string s] w fun e w'=>e=.returned (.bool (ub s))/\Fr aX w w':=by
 by_cases h60:60<s.size
 ·have i60:(60:Int)<(s.size:Int):=ab;have HT:=O (show ub s=false by unfold ub Nw;rw[bf (by simpa using h60)];rfl);go_enter func97,ntmps97;go_wp2;refine aR (v:=.bool false) ?_ rfl ⟨by rw[HT.o],?_⟩
  ·simp[results,Tryz.f97,go_sem]
  ·first|exact(ae aX w).alloc _|exact((ae aX w).alloc _).gI (p:=⟨w.heap.size,0,none⟩) (az _) _
 ·have i60:¬(60:Int)<(s.size:Int):=ab;obtain⟨wb,jP⟩:∃wb,wb=w.alloc (.cells #[.bool false] 4):=⟨_,rfl⟩;have hzb:wb.heap.size=w.heap.size+1:=by rw[jP];simp
  have kf:Fr aX w wb:=by rw[jP];exact(ae aX w).alloc _
  have LN:wb.heap[w.heap.size]?=some (.cells #[.bool false] 4 (0,0)):=by rw[jP];exact aC _ _
  obtain⟨wc,hwc⟩:∃wc,wc=((wb.alloc (.cells #[.string s] 9)).alloc (.cells #[.string ⟨#[46]⟩] 9)).alloc (.cells #[.int .i64 0] 3):=⟨_,rfl⟩;have hfc:Fr aX wb wc:=by rw[hwc];exact(((ae aX wb).alloc _).alloc _).alloc _
  have hzc:wc.heap.size=w.heap.size+4:=by rw[hwc];simp[hzb]
  have Xr:wc.heap[w.heap.size+1]?=some (.cells #[.string s] 9 (0,0)):=by
   rw[hwc, <-hzb];exact(((ae aX _).alloc _).alloc _).keep (aC wb _) id
  have oP:wc.heap[w.heap.size+1+1]?=some (.cells #[.string ⟨#[46]⟩] 9 (0,0)):=by
   rw[hwc, <-hzb];have:=((ae aX _).alloc (.cells #[.int .i64 0] 3)).keep (aC (wb.alloc (.cells #[.string s] 9)) (.cells #[.string ⟨#[46]⟩] 9)) id;simpa using this
  have rI:wc.heap[w.heap.size+1+2]?=some (.cells #[.int .i64 0] 3 (0,0)):=by
   rw[hwc, <-hzb];have:=aC ((wb.alloc (.cells #[.string s] 9)).alloc (.cells #[.string ⟨#[46]⟩] 9)) (.cells #[.int .i64 0] 3);simpa using this
  have HSS:=O ((Gk s ⟨#[46]⟩ wb).mono (R':=fun e w'=>e=.returned (.func (.func 233) #[] #[.pointer (some ⟨w.heap.size+1+1,0,none⟩),.pointer (some ⟨w.heap.size+1,0,none⟩),.pointer (some ⟨w.heap.size+1+2,0,none⟩)])/\wc=w') (fun e w' h=>by rw[hzb, <-hwc]at h;exact⟨h.1,h.2.symm⟩));have qB:=O jP;clear jP hwc;refine(callsIn_wide (n:=5)).1 ?_;refine callsIn_of_wp_marks func97 rfl trivial ?_ rfl
  simp only[ntmps97,bd,List.length_cons,List.length_nil,Nat.reduceAdd,Nat.reduceSub,Array.replicate_succ,Array.replicate_zero,List.push_toArray,List.append_toArray,List.nil_append,List.cons_append]
  gi_wp2_with fail
  rw[<-qB.o];refine⟨trivial,?_⟩;refine(callsIn_wide.2 HSS.o).mono ?_;rintro e u⟨rfl,rfl⟩;gi_wp2;have hkc:=hfc.keep LN id;have afF:=kf.trans hfc;have abE:=O (show ub s=(iL 46 s).all (fun p=>B4 p.data.toList)by
   unfold ub Nw iL;rw[bD (by simpa using Nat.le_of_not_lt h60),Bool.true_and,List.all_map];rfl)
  refine zT rfl ag (gf:=233) (lb:= #[.pointer (some ⟨w.heap.size+1+1,0,none⟩),.pointer (some ⟨w.heap.size+1,0,none⟩),.pointer (some ⟨w.heap.size+1+2,0,none⟩)]) rfl trivial (enters_of func233 af rfl)
   (enc:=fun x:ai=>Value.string x) (k:=w.heap.size+1) (ys:=iL 46 s) ab (Bh s (w.heap.size+1) 4 wc ag hs Xr oP rI) rfl
   (Jo w wc) (SY w wc) (fun xs A B h f=>⟨h.1,h.2.fr hzc f⟩) (fun xs A B h f=>⟨h.1,h.2.fr hzc f⟩) ⟨(fun p hp=>by cases hp),hkc,afF,az _⟩
   (fun x=>{tmps:= #[.string s,undef,.pointer (some ⟨w.heap.size,0,none⟩),.string x,.string s,.int .i64 s.size,.bool false,.string s,.func (.func 233) #[] #[.pointer (some ⟨w.heap.size+1+1,0,none⟩),.pointer (some ⟨w.heap.size+1,0,none⟩),.pointer (some ⟨w.heap.size+1+2,0,none⟩)],.string x,undef,undef,undef,undef,undef,undef,undef,undef,undef,undef,undef,undef,undef,undef,undef,undef,undef,undef,undef,undef],defers:=[]}) ?assign ?body ?done ?stop
  case assign =>
   intro l x W K hK;gi_wp2;exact hK
  case body =>
   intro l pre x W hi hxp;have hxz:x.size<=s.size:=LM (hxp.subset aS);clear hxp;have ER:=O (fun hx=>Pw (x:=x) hzc hi hx);have Be:=O (fun hx=>SZ (x:=x) hi hx);obtain⟨_,hr,_,_⟩:=hi;have HR:=O hr;have c0:W.cell? ⟨w.heap.size,0,none⟩=some (.bool false):=by simp[World.cell?,hr]
   have c1:W.frozen? ⟨w.heap.size,0,none⟩=false:=by simp[World.frozen?,hr]
   clear hr LN hkc Xr oP rI kf hfc afF hzb HSS qB abE;by_cases Gl:x.size=0
   ·have hl:B4 x.data.toList=false:=by
     have:x.data.toList=[]:=by apply b_;simpa using Gl
     rw[this];rfl
    have hem:x.toList=[]:=by rw[aN];apply b_;simpa using Gl
    have arC:x.toList.isEmpty=true:=by rw[hem];rfl
    have HB:=O (Be.o hl);clear hl Be ER;gi_wp2;refine⟨trivial,?_⟩;gi_wp2;exact HB.o W (ae _ _) _
   ·obtain⟨m,hm⟩:∃m,x.size=m+1:=⟨x.size-1,ab⟩;have hne:¬x.toList=[]:=by rw[aN];intro h;apply Gl;have:=ar List.length h;simpa using this
    have S':x.toList.isEmpty=false:=by simpa using hne
    have HEM:=O (show x.data.toList.isEmpty=false by rw[<-aN];exact S');have HH0:=O (show x.data.toList.head?=some (x[0]'ab)by rw[List.head?_eq_getElem?];exact byte_at x 0 ab);have HHL:=O (show x.data.toList.getLast?=some (x[m]'ab)by
     rw[List.getLast?_eq_getElem?]
     have:x.data.toList.length-1=m:=by have:x.data.toList.length=x.size:=by simp
                                       omega
     rw[this];exact byte_at x m ab)
    have hm1:((x.size:Nat):Int)-1=(m:Int):=ab;have Hl:(m:Int)<(x.size:Int):=ab;have hm3:(0:Int)<=(m:Int):=ab;have hm4:m<x.size:=ab;have hm5:0<x.size:=ab;have hm6:(0:Int)<(x.size:Int):=ab;have Ta:∀c:UInt8,c=45↔(c.toNat:Int)=45:=fun c=>by
     constructor
     ·rintro rfl;rfl
     ·intro h;exact UInt8.toNat.inj (by have:(45:UInt8).toNat=45:=rfl;omega)
    by_cases Xs:x[0]'ab=45
    ·have i0:(((x[0]'ab).toNat:Int)==45)=true:=dP.2 ((Ta _).1 Xs);have i0':((x[0]'ab).toNat:Int)=45:=(Ta _).1 Xs;have HB:=O (Be.o (by unfold B4;rw[HH0.o,Xs];simp));clear Be ER HEM HH0 HHL Ta Xs;gi_wp2;refine⟨trivial,?_⟩;gi_wp2;exact HB.o W (ae _ _) _
    ·have i0:(((x[0]'ab).toNat:Int)==45)=false:=aL.2 (fun h=>Xs ((Ta _).2 h));have i0':¬((x[0]'ab).toNat:Int)=45:=fun h=>Xs ((Ta _).2 h);by_cases ZK:x[m]'ab=45
     ·have i1:(((x[m]'ab).toNat:Int)==45)=true:=dP.2 ((Ta _).1 ZK);have i1':((x[m]'ab).toNat:Int)=45:=(Ta _).1 ZK;have HB:=O (Be.o (by unfold B4;rw[HHL.o,ZK];simp));clear Be ER HEM HH0 HHL Ta ZK Xs;gi_wp2;refine⟨trivial,?_⟩;gi_wp2;exact HB.o W (ae _ _) _
     ·have i1:(((x[m]'ab).toNat:Int)==45)=false:=aL.2 (fun h=>ZK ((Ta _).2 h));have i1':¬((x[m]'ab).toNat:Int)=45:=fun h=>ZK ((Ta _).2 h);have wJ:=O (show B4 x.data.toList=x.data.toList.all Iw by
       unfold B4;rw[HEM.o,HH0.o,HHL.o,show(some (x[0]'ab)==some 45)=false by simpa using Xs,show(some (x[m]'ab)==some 45)=false by simpa using ZK];rfl)
      have Px:=O (rT x qH W ab ag ag D3);clear HEM HH0 HHL Ta ZK Xs
      gi_wp2_with fail
      refine⟨trivial,?_⟩;refine(CallsIn.inRound l (callsIn_wide.2 Px.o)).mono ?_;rintro e u⟨rfl,zA⟩;cases iH:x.data.toList.all Iw
      ·have Nx:Lib.trimS x.data.toList qH.data.toList≠ []:=fun h=>by rw[v8,AL,iH]at h;cases h
       have t1:¬(⟨(Lib.trimS x.data.toList qH.data.toList).toArray⟩:ai).toList=[]:=by rw[aN];simpa using Nx
       have t2:(⟨(Lib.trimS x.data.toList qH.data.toList).toArray⟩:ai).toList.isEmpty=false:=by simpa using t1
       have HB:=O (Be.o (wJ.o.trans iH));have VN:=zA.keep HR.o id;have d0:u.cell? ⟨w.heap.size,0,none⟩=some (.bool false):=by simp[World.cell?,VN]
       have d1:u.frozen? ⟨w.heap.size,0,none⟩=false:=by simp[World.frozen?,VN]
       clear Nx iH Be ER wJ Px c0 c1;generalize (⟨(Lib.trimS x.data.toList qH.data.toList).toArray⟩:ai)=z at *
       gi_wp2;exact HB.o u zA _
      ·have Nx:Lib.trimS x.data.toList qH.data.toList=[]:=by rw[v8,AL,iH]
       rw[Nx];have HG:=O (ER.o (wJ.o.trans iH));clear Nx iH Be ER wJ Px;gi_wp2;exact HG.o u zA _
  case done =>
   rintro D W rfl⟨iH,hw⟩hd;have c0:W.cell? ⟨w.heap.size,0,none⟩=some (.bool false):=by simp[World.cell?,hw.1]
   have c1:W.frozen? ⟨w.heap.size,0,none⟩=false:=by simp[World.frozen?,hw.1]
   have HT:=O (show ub s=true by rw[abE.o,fY];exact iH);have HF:=O hw.2.1;clear hw;gi_wp2;have pY:=(KeepsOthers.setCell W ⟨w.heap.size,0,none⟩ (.bool true)).same _ _ hd rfl;refine⟨aS,.inl ⟨_,_,rfl,run_takeDeferred pY,?_⟩⟩
   have tM:=cell_kept (World.cell?_setCell_same' W ⟨w.heap.size,0,none⟩ (.bool true) (by rw[c0];rfl)) (grownBy_putObj' _ wc.heap.size (.deferred none)) (fun r e=>by cases e;exact⟨_,pY,rfl⟩);refine⟨.bool true,?_,by rw[HT.o],(HF.o.gI (p:=⟨w.heap.size,0,none⟩) (az _) _).putObj (fun hl=>ab) _⟩;simp[results,Tryz.f97,go_sem,tM]
  case stop =>
   rintro D xs W rfl Zp⟨⟨p,hp,hlp⟩,hw⟩hd;have HT:=O (show ub s=false by rw[abE.o,iX];exact⟨p,Zp.subset hp,by simp[hlp]⟩);have c0:W.cell? ⟨w.heap.size,0,none⟩=some (.bool false):=by simp[World.cell?,hw.1]
   have HF:=O hw.2.1;clear hw;gi_wp2;refine⟨aS,.inl ⟨_,_,rfl,run_takeDeferred hd,?_⟩⟩;have tM:=cell_kept c0 (grownBy_putObj' _ wc.heap.size (.deferred none)) (fun r e=>by cases e;exact⟨_,hd,rfl⟩);refine⟨.bool false,?_,by rw[HT.o],HF.o.putObj (fun hl=>ab) _⟩;simp[results,Tryz.f97,go_sem,tM]
def nF(o:gz):Bool:=aaU ⟨o.aD,o.host.data.toList,o.port⟩
theorem ES(o:gz)(w:World)(hs:o.host.size<100000) :
  aE 65 #[.agg o.cells.toArray] w fun e w'=>e=.returned (.bool (nF o))/\Fr aX w w':=by
 obtain⟨sec,host,port⟩:=o;unfold gz.cells;have HR:=O (show nF ⟨sec,host,port⟩=(ub host&&(decide (1<=port)&&decide (port<=65535)))from rfl);obtain⟨wb,jP⟩:∃wb,wb=w.alloc (.cells #[.bool sec,.string host,.int .i64 port] 24):=⟨_,rfl⟩;have kf:Fr aX w wb:=by rw[jP];exact(ae aX w).alloc _
 have l_:wb.heap[w.heap.size]?=some (.cells #[.bool sec,.string host,.int .i64 port] 24 (0,0)):=by rw[jP];exact aC _ _
 have qB:=O jP;clear jP;go_enter func65,ntmps65;go_wp2_with fail
 rw[<-qB.o];refine(S_ host wb hs).mono ?_;rintro e u⟨rfl,zA⟩;have sH:=zA.keep l_ id;have c2:u.cell? ⟨w.heap.size,2,none⟩=some (.int .i64 port):=by simp[World.cell?,sH]
 generalize ub host=b at *
 cases b
 ·go_wp2;go_ret;exact⟨by rw[HR.o];rfl,kf.trans zA⟩
 ·by_cases h1:1<=port
  ·have d1:decide (1<=port)=true:=bD h1;go_wp2;go_ret;exact⟨by rw[HR.o,d1];rfl,kf.trans zA⟩
  ·have d1:decide (1<=port)=false:=bf h1;go_wp2;go_ret;exact⟨by rw[HR.o,d1];rfl,kf.trans zA⟩
theorem rq(base:Nat)(v:Value)(ss:List ai)(w:World)(h:df base w v ss) :
  aE 99 #[v] w fun e w'=>∃a c,e=.returned (.slice a ss.length c)/\df base w' (.slice a ss.length c) ss/\Fr aX w w':=by
 have hl:=h.re;rcases h.rd with ⟨a,c,rfl,rfl,_⟩|⟨bk,o,c,rfl,h1,h2,h3,h4⟩
 ·cases a with
  |none=>exact(slices_Clone_string_nil 0 c w).mono fun e w' ⟨he,hw⟩=>⟨none,0,he,df.nil _ _,hw▸ae _ _⟩
  |some a =>
   refine(slices_Clone_string_zero a c w).mono fun e w' ⟨v',he,ho,_,hb⟩=>?_;have hs:Strs w.heap.size w' v' []:=ho;obtain⟨a',c',hv⟩:=hs.form;exact⟨a',c',by rw[he,hv],by rw[<-hv];exact hs.in hl,fe hb⟩
 ·refine(slices_Clone_string bk o ss.length c ss w (az _) ab (fun j hj=>h4 j _ (by simp[List.getD,hj]))).mono fun e w' ⟨v',he,ho,_,hb⟩=>?_;rw[aG (az _)]at ho;have hs:Strs w.heap.size w' v' ss:=ho;obtain⟨a',c',hv⟩:=hs.form;exact⟨a',c',by rw[he,hv],by rw[<-hv];exact hs.in hl,fe hb⟩
def Te(base:Nat)(m:aU bG)(w:World)(e:Ending)(w':World):Prop :=
 ∃r:aU Value,e=.returned (.agg r.cells.toArray)/\r.Reads (df base w') m/\(∀u∈r.cells,u.oneCell'=true)/\Fr aX w w'
theorem EU{r:aU Value}{a b:fi}{n m c d:Nat}(h1:r.a.dom=.slice a n c)(h2:r.paths=.slice b m d):∀u∈r.cells,u.oneCell'=true:=by
 intro u hu;simp only[aU.cells,bE,bU,dL]at hu;rcases hu with rfl|rfl|rfl|rfl|rfl|rfl|rfl|rfl|rfl|rfl|rfl|rfl|rfl|rfl|rfl|rfl<;>first|rfl|(rw[h1];rfl)|(rw[h2];rfl)
theorem uf(base:Nat)(g:aU Value)(m:aU bG)(w:World)(im:base<=w.heap.size)(h:g.Reads (df base w) m) :
  aE 94 #[.agg g.cells.toArray] w (Te base m w):=by
 have ZN:=h.2.2.2.2.2.2;have hdi:=h.2.2.2.2.1.2.2.2.2.2.2.2;have H:=O h;clear h;unfold aU.cells;obtain⟨ad,cd,hd⟩:=hdi.rd.form;obtain⟨ap,cp,hp⟩:=ZN.rd.form;rw[hp]at ZN;rw[hd]at hdi;rw[hd,hp];clear hd hp;go_enter func94,ntmps94;go_wp2_with fail
 have oL:Fr aX w _:=((ae aX w).alloc (.cells #[.bool g.o.aD,.string g.o.host,.int .i64 g.o.port,.bool g.proxy,.string g.user,.string g.pass,.int .i64 g.a.scheme,.string g.a.aO,.string g.a.bC,.string g.a.cj,.bool g.a.cy,.string g.a.eZ,.bool g.a.dr,.slice ad m.a.dom.length cd,.int .i64 g.count,.slice ap m.paths.length cp] 133)).alloc (.cells fc 133)
 have b0:=Below.heap_alloc (w.alloc (.cells #[.bool g.o.aD,.string g.o.host,.int .i64 g.o.port,.bool g.proxy,.string g.user,.string g.pass,.int .i64 g.a.scheme,.string g.a.aO,.string g.a.bC,.string g.a.cj,.bool g.a.cy,.string g.a.eZ,.bool g.a.dr,.slice ad m.a.dom.length cd,.int .i64 g.count,.slice ap m.paths.length cp] 133)) (.cells fc 133) w.heap.size aS;rw[aC]at b0
 have b1:=aC (w.alloc (.cells #[.bool g.o.aD,.string g.o.host,.int .i64 g.o.port,.bool g.proxy,.string g.user,.string g.pass,.int .i64 g.a.scheme,.string g.a.aO,.string g.a.bC,.string g.a.cj,.bool g.a.cy,.string g.a.eZ,.bool g.a.dr,.slice ad m.a.dom.length cd,.int .i64 g.count,.slice ap m.paths.length cp] 133)) (.cells fc 133)
 rw[show(w.alloc (.cells #[.bool g.o.aD,.string g.o.host,.int .i64 g.o.port,.bool g.proxy,.string g.user,.string g.pass,.int .i64 g.a.scheme,.string g.a.aO,.string g.a.bC,.string g.a.cj,.bool g.a.cy,.string g.a.eZ,.bool g.a.dr,.slice ad m.a.dom.length cd,.int .i64 g.count,.slice ap m.paths.length cp] 133)).heap.size=w.heap.size+1 from aS]at b1
 generalize (w.alloc (.cells _ 133)).alloc _=W at oL b0 b1;have ZN:=ZN.dx oL;have hdi:=hdi.dx oL;refine(rq base _ m.paths W ZN).mono ?_;rintro e u1⟨a1,c1,rfl,A1,dw⟩;have Rj:=dw.keep b0 id;have Tf:=dw.keep b1 id;have afK:=hdi.dx dw;have abH:=oL.trans dw;have c13:u1.cell? ⟨w.heap.size,13,none⟩=some (.slice ad m.a.dom.length cd):=by simp[World.cell?,Rj]
 have c15:u1.cell? ⟨w.heap.size,15,none⟩=some (.slice ap m.paths.length cp):=by simp[World.cell?,Rj]
 have f15:u1.frozen? ⟨w.heap.size,15,none⟩=false:=by simp[World.frozen?,Rj]
 clear oL b0 b1 dw ZN hdi;have ZO:w.heap.size<=u1.heap.size:=abH.size;go_wp2_with fail
 have dF:=abH.gI (p:=⟨w.heap.size,15,none⟩) (az _) (.slice a1 m.paths.length c1);have b0:=cg Rj 15 (.slice a1 m.paths.length c1);have b1:=(sG (w:=u1) (b:=w.heap.size) (g:=w.heap.size+1) ab 15 (.slice a1 m.paths.length c1)).trans Tf;have ru:rJ base u1 (one w.heap.size):=by
  rintro k rfl hk;exact⟨im,fun c f e=>by rw[Rj]at e;cases e⟩
 have kx:Fr (one w.heap.size) u1 (u1.setCell ⟨w.heap.size,15,none⟩ (.slice a1 m.paths.length c1)):=(ae (one w.heap.size) u1).setCell (p:=⟨w.heap.size,15,none⟩) (fun _=>rfl) _;have KQ:=A1.fr kx ru;have tN:=afK.fr kx ru;clear A1 afK ru kx Rj Tf abH c13 c15 f15;generalize u1.setCell ⟨w.heap.size,15,none⟩ (.slice a1 m.paths.length c1)=U at *
 refine(rq base _ m.a.dom U tN).mono ?_;rintro e u2⟨a2,c2,rfl,RQ,iG⟩
 have Rj:u2.heap[w.heap.size]?=some (.cells #[.bool g.o.aD,.string g.o.host,.int .i64 g.o.port,.bool g.proxy,.string g.user,.string g.pass,.int .i64 g.a.scheme,.string g.a.aO,.string g.a.bC,.string g.a.cj,.bool g.a.cy,.string g.a.eZ,.bool g.a.dr,.slice ad m.a.dom.length cd,.int .i64 g.count,.slice a1 m.paths.length c1] 133 (0,0)):=iG.keep b0 id;have Tf:=iG.keep b1 id;have ZQ:=KQ.dx iG
 have HF:=dF.trans iG;have c13:u2.cell? ⟨w.heap.size,13,none⟩=some (.slice ad m.a.dom.length cd):=by simp[World.cell?,Rj]
 have f13:u2.frozen? ⟨w.heap.size,13,none⟩=false:=by simp[World.frozen?,Rj]
 have b2:(u2.setCell ⟨w.heap.size,13,none⟩ (.slice a2 m.a.dom.length c2)).heap[w.heap.size]?=some (.cells #[.bool g.o.aD,.string g.o.host,.int .i64 g.o.port,.bool g.proxy,.string g.user,.string g.pass,.int .i64 g.a.scheme,.string g.a.aO,.string g.a.bC,.string g.a.cj,.bool g.a.cy,.string g.a.eZ,.bool g.a.dr,.slice a2 m.a.dom.length c2,.int .i64 g.count,.slice a1 m.paths.length c1] 133 (0,0)):=cg Rj 13 (.slice a2 m.a.dom.length c2)
 have b3:=(sG (w:=u2) (b:=w.heap.size) (g:=w.heap.size+1) ab 13 (.slice a2 m.a.dom.length c2)).trans Tf;have ru:rJ base u2 (one w.heap.size):=by
  rintro k rfl hk;exact⟨im,fun c f e=>by rw[Rj]at e;cases e⟩
 have kx:Fr (one w.heap.size) u2 (u2.setCell ⟨w.heap.size,13,none⟩ (.slice a2 m.a.dom.length c2)):=(ae (one w.heap.size) u2).setCell (p:=⟨w.heap.size,13,none⟩) (fun _=>rfl) _;have hs5:=ZQ.fr kx ru;have hd5:=RQ.fr kx ru;have fR:=HF.gI (p:=⟨w.heap.size,13,none⟩) (az _) (.slice a2 m.a.dom.length c2);have B2:=O b2;have B3:=O b3;clear b0 b1 Rj Tf b2 b3 ru kx ZQ KQ tN RQ HF dF iG
 have ov:(#[.bool g.o.aD,.string g.o.host,.int .i64 g.o.port,.bool g.proxy,.string g.user,.string g.pass,.int .i64 g.a.scheme,.string g.a.aO,.string g.a.bC,.string g.a.cj,.bool g.a.cy,.string g.a.eZ,.bool g.a.dr,.slice a2 m.a.dom.length c2,.int .i64 g.count,.slice a1 m.paths.length c1]:bW).all (·.oneCell')=true:=cE (EU (r:={g with a:={g.a with dom:=.slice a2 m.a.dom.length c2},paths:=.slice a1 m.paths.length c1}) rfl rfl)
 have ZR:=O ov;clear ov;go_wp2_with (first|((with_reducible refine dt 13 ?_);refine aJ rfl 133 (.tmp 1) rfl w.heap.size rfl _ _ (0,0) _ B2.o underlying133 rfl af ?_)|((with_reducible refine cU 133 ?_);refine aI rfl 133 (.tmp 2) (.tmp 13) rfl (w.heap.size+1) _ rfl rfl _ fc B3.o af rfl ZR.o ?_)|fail)
 have ru:rJ base (u2.setCell ⟨w.heap.size,13,none⟩ (.slice a2 m.a.dom.length c2)) (one (w.heap.size+1)):=by
  rintro k rfl hk;exact⟨ab,fun c f e=>by rw[B3.o]at e;cases e⟩
 generalize (u2.setCell ⟨w.heap.size,13,none⟩ (.slice a2 m.a.dom.length c2))=V at *
 have kx:Fr (one (w.heap.size+1)) V (V.setRow (w.heap.size+1) #[.bool g.o.aD,.string g.o.host,.int .i64 g.o.port,.bool g.proxy,.string g.user,.string g.pass,.int .i64 g.a.scheme,.string g.a.aO,.string g.a.bC,.string g.a.cj,.bool g.a.cy,.string g.a.eZ,.bool g.a.dr,.slice a2 m.a.dom.length c2,.int .i64 g.count,.slice a1 m.paths.length c1]):=(ae (one (w.heap.size+1)) V).setRow (fun _=>rfl) _
 refine aR (bj bB _ _ (w.heap.size+1) 133 #[.bool g.o.aD,.string g.o.host,.int .i64 g.o.port,.bool g.proxy,.string g.user,.string g.pass,.int .i64 g.a.scheme,.string g.a.aO,.string g.a.bC,.string g.a.cj,.bool g.a.cy,.string g.a.eZ,.bool g.a.dr,.slice a2 m.a.dom.length c2,.int .i64 g.count,.slice a1 m.paths.length c1] (0,0) _ rfl (aY V (w.heap.size+1) _ _ _ _ B3.o) underlying133 rfl af) rfl ?_
 obtain⟨h1,h2,h3,h4,⟨k1,k2,k3,k4,k5,k6,k7,_⟩,h6,_⟩:=H.o;exact⟨{g with a:={g.a with dom:=.slice a2 m.a.dom.length c2},paths:=.slice a1 m.paths.length c1},rfl,⟨h1,h2,h3,h4,⟨k1,k2,k3,k4,k5,k6,k7,hd5.fr kx ru⟩,h6,hs5.fr kx ru⟩,EU rfl rfl,fR.setRow (fun h=>absurd h ab) _⟩
def ab7(b:Nat)(w:World)(bk cap:Nat)(p:a_->Bool)(xs:cX)(i j:Value)(wr:World):Prop :=
 ∃(m n:Nat) (ys:cX),i=.int .i64 m/\j=.int .i64 n/\m<n/\n<=xs.length/\ys.length=xs.length/\OwnRows b 137 12 wr (.slice (some ⟨bk,0,none⟩) xs.length cap) ys /\
  ys.take m=(xs.take n).filter (fun x=>!p x)/\ys.drop n=xs.drop n/\Fr (one bk) w wr
theorem y_{p:a_->Bool}:∀ {l:cX} (i:Nat),l.any p=true->∃k x,l[k]?=some x/\p x=true/\(l.take k).any p=false/\lW p l i=((i+k:Nat):Int)
 |[],_,h=>by simp at h
 |a :: l,i,h=>by
  cases ha:p a
  ·rw[List.any_cons,ha,jC]at h;obtain⟨k,x,h1,h2,h3,h4⟩:=y_ (i+1) h;refine⟨k+1,x,by simpa using h1,h2,by simp[ha,h3],?_⟩;rw[lW,ha];simp only[cJ,eT];rw[h4];congr 1;omega
  ·exact⟨0,a,rfl,ha,rfl,by rw[lW,ha];simp⟩
theorem za{p:a_->Bool}{l:cX}(h:l.any p=false):l.filter (fun x=>!p x)=l:=by
 rw[List.filter_eq_self];intro a ha;have:=fA.1 h a ha;simpa using this
theorem pE(b:Nat)(g:Nat)(cap:bW)(p:a_->Bool)(v:Value)(xs:cX)(w:World)(eg:∀args w,(callFunc g args).run prog w=.ok (.enter g args) w)(hp:hD (own v) w g cap p xs)(hv:OwnRows b 137 12 w v xs) :
  aE 141 #[v,.func (.func g) #[] cap] w fun e w'=>∃a c,e=.returned (.slice a (xs.filter (fun x=>!p x)).length c)/\OwnRows b 137 12 w' (.slice a (xs.filter (fun x=>!p x)).length c) (xs.filter (fun x=>!p x))/\Fr (own v) w w'/\own (.slice a (xs.filter (fun x=>!p x)).length c)=own v:=by
 cases jd:xs.any p
 ·have ry:=O (kz (i:=0) jd);rw[za jd];obtain⟨av,cv,gi⟩:=hv.form;subst gi;go_enter func141,ntmps141;go_wp2_with fail
  refine(ug g cap p _ xs w eg hp.none hv.at).mono ?_;rintro e w1⟨rfl,dw⟩;rw[ry.o];go_wp2;go_ret;exact⟨_,_,rfl,hv.fr dw (fun _ _ h=>h),dw.mono (fun _ _ h=>absurd h id),rfl⟩
 ·obtain⟨k0,x0,Gl,CP,uS,ry⟩:=y_ 0 jd;rw[bw]at ry;have VN:=(List.getElem?_eq_some_iff.1 Gl).1;obtain⟨bk,cp,Jm⟩:∃bk cp,v=.slice (some ⟨bk,0,none⟩) xs.length cp:=by
   rcases hv.2.2 with ⟨_,hn⟩|⟨bk,cp,cur,hv,_⟩
   ·omega
   ·exact⟨bk,cp,hv⟩
  subst Jm;obtain⟨Bb,cur,ua,q1,q2,q3,q4,q5,q6⟩:=hv.open (g:=bk) rfl;cases ua;unfold maxLen at q4;have ec:=O hv.1;have CQ:=O (show xs.take k0=(xs.take (k0+1)).filter (fun x=>!p x)by
   rw[dU Gl,cC,za uS];simp[CP])
  have HP:=O hp;have Xw:=O ry;clear jd uS Gl CP ry q2 q5 q6 hp;go_enter func141,ntmps141;go_wp2_with fail
  refine(ug g cap p _ xs w eg HP.o.none hv.at).mono ?_;rintro e w1⟨rfl,dw⟩;rw[Xw.o];have Hd:=hv.fr dw (fun _ _ h=>h);have Hm:((k0:Int)== -1)=false:=by rw[aL];omega
  go_wp2;go_loopw[5,6] (ab7 b w bk cp p xs) (fun _ j _=>xs.length-(intOf j).toNat)
  case atStart=>exact⟨k0,k0+1,xs,rfl,bh,ab,ab,rfl,Hd,CQ.o,rfl,dw.mono (fun _ _ h=>absurd h id)⟩
  case round =>
   obtain⟨m,n,ys,rfl,rfl,hmn,hn,hlen,cQ,q_,sg,cR⟩:=hrel;have HT:=O q_;have HD:=O sg;have jH:=O hlen;clear q_ sg hlen;rw[<-jH.o]at cQ;have rz:=cQ.at;by_cases fE:n<xs.length
   ·rcases rz.2 with ⟨_,_,_,e,_⟩|⟨bk',of,c,hf,h1,h2,h3,h4⟩
    ·have hl:=jH.o;rw[e]at hl;simp at hl;omega
    ·cases hf;have dT:=O (List.getElem?_eq_getElem fE);have xL:ys[n]?=some xs[n]:=by
      have e:=ar (fun l:cX=>l[0]?) HD.o;simp only[List.getElem?_drop,Nat.add_zero]at e;rw[e,dT.o]
     have hcell:=h4 n _ xL;simp only[bw]at hcell;have jc:=O (bQ fE);generalize xs[n]=x at dT hcell jc xL;have lI:=(ec.o x jc.o).1;have ov:=O (ec.o x jc.o).2;have iQ:=fun W=>run_storeCells_new (P:=prog) W 137 #[.bool false,.string ⟨#[]⟩,.int .i64 0,.bool false,.string ⟨#[]⟩,.int .i64 0,.string ⟨#[]⟩,.string ⟨#[]⟩,.bool false,.string ⟨#[]⟩,.string ⟨#[]⟩,.int .i64 0] x (by rw[lI];rfl) ov.o
     have ix:Fr aX wr (wr.alloc (.cells x.toArray 137)):=(ae aX wr).alloc _;have fF:=O (HP.o x jc.o (wr.alloc (.cells x.toArray 137)) ((cR.alloc _).mono (fun k _ h=>by have e:k=bk:=h;rw[e];rfl)));have Gp:=O (zZ lI);have km:=cR.alloc (.cells x.toArray 137);have fy:=cQ.fr ix (fun _ _ h=>h);have rh:(wr.alloc (.cells x.toArray 137)).heap[wr.heap.size]?=some (.cells x.toArray 137 (0,0)):=aC _ _
     have td:=O rh;clear h4 xL rh ix;go_wp2_with (first|((with_reducible refine dt 25 ?_);refine bu rfl 137 (.tmp 24) rfl bk (n*12) rfl x _ hcell underlying137 rfl Gp.o ?_)|((with_reducible refine dt 27 ?_);refine aJ rfl 137 (.tmp 7) rfl wr.heap.size rfl _ x.toArray (0,0) _ td.o underlying137 rfl (by rw[bd];exact Gp.o) ?_)|fail)
     have ZO:wr.heap.size<(wr.alloc (.cells x.toArray 137)).heap.size:=aS;clear iQ hcell;generalize wr.alloc (.cells x.toArray 137)=W2 at *
     refine fF.o.mono ?_;rintro e w3⟨rfl,iG⟩;have qg:=km.trans (iG.mono (fun _ _ h=>absurd h id));have fo:=fy.fr iG (fun _ _ h=>h);have sJ:=O (iG.keep td.o id);have LX:=O jH.o;cases rK:p x
     ·have VX:=O (fo.there (g:=bk) (cap:=cp) (by rw[jH.o]) (o:=m*12) (n:=x.toArray.size) (by
       have hmc:(m+1)*12<=cp*12:=bN _ ab;rw[bd,lI];omega))
      have eV:=fo.store (i:=m) (y:=x) (by rw[jH.o];omega) lI ov.o (g:=bk) rfl;rw[jH.o]at eV;have n9:=qg.step (fC (ae (one bk) w3) (fun _=>rfl) x (m*12)) (fun _ _ h=>h)
      go_wp2_with (first|((with_reducible refine dt 32 ?_);refine aJ rfl 137 (.tmp 7) rfl wr.heap.size rfl _ x.toArray (0,0) _ sJ.o underlying137 rfl (by rw[bd];exact Gp.o) ?_)|((with_reducible refine cU 137 ?_);refine ju rfl 137 (.tmp 33) (.tmp 32) rfl bk (m*12) x.toArray rfl rfl VX.o (by rw[bd];exact Gp.o) (cE ov.o) ?_)|fail)
      go_roundw
      case rel =>
       refine⟨m+1,n+1,ys.set m x,bh,bh,ab,ab,by rw[dZ];exact LX.o,eV,?_,?_,n9⟩
       ·rw[dU (l:=ys.set m x) (List.getElem?_set_self (by rw[LX.o];omega)),fU (az m),dU dT.o,cC,HT.o];simp[rK]
       ·rw[fV ab];have e:=ar (List.drop 1) HD.o;simpa[ey]using e
      case measure=>simp[intOf];omega
     ·rw[jH.o]at fo;go_wp2_with fail
      go_roundw
      case rel =>
       refine⟨m,n+1,ys,rfl,bh,ab,ab,LX.o,fo,?_,?_,qg⟩
       ·rw[dU dT.o,cC,HT.o];simp[rK]
       ·have e:=ar (List.drop 1) HD.o;simpa[ey]using e
      case measure=>simp[intOf];omega
   ·have rA:n=xs.length:=ab;subst rA;have fl:=O (show ys.take m=xs.filter (fun x=>!p x)by have h:=HT.o;rw[aG (az _)]at h;exact h);have se:(ys.take m).length=m:=by rw[aQ,jH.o];omega
    have yR:=O (show(xs.filter (fun x=>!p x)).length=m by rw[<-fl.o];exact se);have hcut:=cQ.cut (i:=m) (by rw[jH.o];omega) (g:=bk) (cap:=cp) (by rw[jH.o]);have hle:(xs.length-m)*12+m*12<=cp*12:=by rw[<-dD];exact bN _ ab
    have Bi:(Builtin.zeroCells D8 (xs.length-m)).toList.length=(xs.length-m)*12:=by simp[Builtin.zeroCells]
    have wU:=fun ty=>jt (P:=prog) wr 119 137 ty D8 underlying119 (fun w=>af) ag N9 bk (m*12) (xs.length-m) (cp-m) ab (by
     have:=cQ.there (g:=bk) (cap:=cp) (by rw[jH.o]) (o:=m*12) (n:=(xs.length-m)*12) ab;exact this)
    have xM:=hcut.behind (o:=m*12) (vs:=(Builtin.zeroCells D8 (xs.length-m)).toList) (by rw[se];exact az _) (g:=bk) (cap:=cp) (by rw[se]) (by rw[Bi];omega);have n9:=cR.step (fC (ae (one bk) wr) (fun _=>rfl) (Builtin.zeroCells D8 (xs.length-m)).toList (m*12)) (fun _ _ h=>h);clear cQ rz hcut Bi se hle jH;go_wp2_with fail
    go_ret;rw[yR.o, <-fl.o];exact⟨_,_,rfl,xM,n9.mono (fun k _ h=>by have e:k=bk:=h;rw[e];rfl),rfl⟩
theorem ab8:∃i0:TypeInfo,prog.info? 137=some i0/\i0.size=12:=by
 have h:(prog.info? 137).map (·.size)=some 12:=af;cases hq:prog.info? 137 with
 |none=>rw[hq]at h;cases h
 |some i=>rw[hq]at h;exact⟨i,rfl,by simpa using h⟩
theorem PM(b:Nat)(bk cp i j:Nat)(xs:cX)(w:World)(hv:OwnRows b 137 12 w (.slice (some ⟨bk,0,none⟩) xs.length cp) xs)(OS:i<j)(hj:j<=xs.length) :
  aE 146 #[.slice (some ⟨bk,0,none⟩) xs.length cp,.int .i64 i,.int .i64 j] w fun e w'=>e=.returned (.slice (some ⟨bk,0,none⟩) (i+(xs.length-j)) cp)/\OwnRows b 137 12 w' (.slice (some ⟨bk,0,none⟩) (i+(xs.length-j)) cp) (xs.take i++xs.drop j)/\Fr (one bk) w w':=by
 obtain⟨i0,rL,kP⟩:=ab8;obtain⟨Bb,cur,ua,q1,q2,q3,q4,q5,q6⟩:=hv.open (g:=bk) rfl;cases ua;unfold maxLen at q4;have dT:=hv.at;have ec:=hv.1;obtain⟨news,kr⟩:∃news,news=(xs.drop j).flatten:=⟨_,rfl⟩;have hdr:∀x∈xs.drop j,x.length=12/\∀u∈x,u.oneCell'=true:=fun x hx=>ec x (eB hx);have hlen:news.length=(xs.length-j)*12:=by rw[kr,f_ (fun x hx=>(hdr x hx).1),bJ]
 obtain⟨A,hA,LY⟩:∃A:Addr,(if cp=j then some (⟨bk,0,none⟩:Addr)else some ⟨bk,j*12,none⟩)=some A/\Hid (∀t u,news[t]?=some u->w.drew.cell? (A.add t)=some u):=by
  by_cases h:cp=j
  ·refine⟨⟨bk,0,none⟩,by simp[h],fun t u hu=>?_⟩
   have h0:news.length=0:=by rw[hlen];have:xs.length-j=0:=by omega
                             rw[this,gX]
   rw[dG.1 h0]at hu;simp at hu
  ·refine⟨⟨bk,j*12,none⟩,by simp[h],fun t u hu=>?_⟩;have ht:t<(xs.length-j)*12:=by
    have:=(List.getElem?_eq_some_iff.1 hu).1;omega
   have nP:xs.flatten[j*12+t]?=some u:=by
    have e:xs.flatten=(xs.take j).flatten++(xs.drop j).flatten:=by rw[<-eh,fH]
    have hl:(xs.take j).flatten.length=j*12:=by rw[f_ (fun x hx=>(ec x (eL hx)).1),aQ,dJ hj]
    rw[e,List.getElem?_append_right ab,hl,show j*12+t-j*12=t from ab, <-kr];exact hu
   have hjt:j*12+t<xs.length*12:=by
    have:(xs.length-j)*12+j*12=xs.length*12:=by rw[<-dD];congr 1;omega
    omega
   rw[<-q6,List.getElem?_take_of_lt hjt]at nP;have BH:cur[j*12+t]?=some u:=by simpa using nP
   have ea:(Addr.add ⟨bk,j*12,none⟩ t)=⟨bk,j*12+t,none⟩:=by unfold Addr.add;split<;>simp_all
   rw[ea];show w.cell? _=some u;simp[World.cell?,q2,BH]
 have s1:=O hlen;have s2:=O (show∀u∈news,u.oneCell'=true by
  intro u hu;rw[kr]at hu;obtain⟨x,hx,EY⟩:=fG.1 hu;exact(hdr x hx).2 u EY)
 have s3:=O (show∀t,t<news.length->(w.drew.cell? ⟨bk,0+i*12+t,none⟩).isSome=true/\w.drew.frozen? ⟨bk,0+i*12+t,none⟩=false by
  intro t ht;rw[bw];have hle:i*12+(xs.length-j)*12<=cp*12:=by rw[<-dD];exact bN _ ab
  have:=hv.there (g:=bk) (cap:=cp) rfl (o:=i*12) (n:=(xs.length-j)*12) hle t ab;exact this)
 have Ti:OwnRows b 137 12 w.drew (.slice (some ⟨bk,0,none⟩) xs.length cp) xs:=hv;have pX:=Ti.Ce (i:=i) (ys:=xs.drop j) ab hdr (g:=bk) (cap:=cp) rfl (by rw[bJ];omega);rw[bJ, <-kr]at pX;have xN:Fr (one bk) w (w.drew.setCells bk (i*12) news):=((ae (one bk) w).drew).setCells (fun _=>rfl) _ _;obtain⟨W1,Bf⟩:∃W1,W1=w.drew.setCells bk (0+i*12) news:=⟨_,rfl⟩;have HW:=O Bf;rw[bw]at Bf;rw[<-Bf]at pX xN
 have rA:(xs.take i++xs.drop j).length=i+(xs.length-j):=by rw[aM,aQ,bJ];omega
 have hm:i+(xs.length-j)<xs.length:=ab;have Bi:(Builtin.zeroCells D8 (xs.length-(i+(xs.length-j)))).toList.length=(xs.length-(i+(xs.length-j)))*12:=by simp[Builtin.zeroCells]
 have hle:(i+(xs.length-j))*12+(xs.length-(i+(xs.length-j)))*12<=cp*12:=by rw[<-dD];exact bN _ ab
 have wU:=fun ty=>jt (P:=prog) W1 119 137 ty D8 underlying119 (fun w=>af) ag N9 bk ((i+(xs.length-j))*12) (xs.length-(i+(xs.length-j))) (cp-(i+(xs.length-j))) ab (by
  have:=pX.there (g:=bk) (cap:=cp) (by rw[rA]) (o:=(i+(xs.length-j))*12) (n:=(xs.length-(i+(xs.length-j)))*12) hle;exact this)
 have xM:=pX.behind (o:=(i+(xs.length-j))*12) (vs:=(Builtin.zeroCells D8 (xs.length-(i+(xs.length-j)))).toList) (by rw[rA];exact az _) (g:=bk) (cap:=cp) (by rw[rA]) (by rw[Bi];omega);have n9:=xN.step (fC (ae (one bk) W1) (fun _=>rfl) (Builtin.zeroCells D8 (xs.length-(i+(xs.length-j)))).toList ((i+(xs.length-j))*12)) (fun _ _ h=>h);have hne:((i:Int)==(j:Int))=false:=by rw[aL];omega
 have abM:i<=cp:=ab;have abN:j<=cp:=ab;have HA:=O hA;clear Bf pX Ti xN kr hlen hdr ec dT rA Bi hle q2 q5 q6 hv;go_enter func146,ntmps146;go_wp2_with fail
 have hA:=HA.o;go_region_law (refine step_append_room rfl (.tmp 22) (.tmp 25) 119 rfl 137 i0 12 underlying119 rL kP bk 0 i cp (by simp[Act.eval,Act.put]) A (xs.length-j) (cp-j) news (by simp[Act.eval,Act.put]) s1.o LY.out s2.o ab s3.o ?_;rw[<-HW.o])
 all_goals
  go_wp2_with fail
  go_ret;exact⟨rfl,xM,n9⟩
theorem XK:(prog.info? 137).map (fun i=>(i.zero,i.size,i.bytes))=some (some (.agg #[.bool false,.string ⟨#[]⟩,.int .i64 0,.bool false,.string ⟨#[]⟩,.int .i64 0,.string ⟨#[]⟩,.string ⟨#[]⟩,.bool false,.string ⟨#[]⟩,.string ⟨#[]⟩,.int .i64 0]),12,144):=af
theorem XL(v:Value)(xs:cX)(w:World)(h:ez 12 w v xs)(hl:xs.length<=1000000000) :
  aE 100 #[v] w fun e w'=>∃v',e=.returned v'/\OwnRows w.heap.size 137 12 w' v' xs/\Fr aX w w':=by
 obtain⟨a,c,hv⟩:=h.form;subst hv;have q22:∀(w:World) (a:fi) (n c n' c':Nat),(binOp .eql 119 (.slice a n c) (.slice none n' c')).run prog w=.ok (.bool a.isNone) w:=fun w a n c n' c'=>Lib.run_eql_slice_nil w _ _ a n c n' c' underlying119;cases a with
 |none =>
  obtain⟨rfl,rfl⟩:xs=[]/\c=0:=by
   rcases h.2 with ⟨a',c',hv,hs,hc⟩|⟨bk,o',c',hf,_⟩
   ·injection hv with e1 e2 e3
    exact⟨hs,e3.trans (hc e1.symm)⟩
   ·injection hf with e1;cases e1
  go_enter func100,ntmps100;go_wp2;go_ret;exact⟨_,rfl,dp _ _ _ _,ae _ _⟩
 |some ad =>
  have HX:=h.1;have HC:=O (show∀j u,xs.flatten[j]?=some u->w.cell? (ad.add j)=some u from fun j u hj=>by
   rcases h.2 with ⟨_,_,_,e,_⟩|⟨bk,o',c',hf,g1,g2,g3,g4⟩
   ·subst e;simp at hj
   ·cases hf;have yR:xs.flatten.length=xs.length*12:=f_ (fun x hx=>(HX x hx).1);have hjl:=(List.getElem?_eq_some_iff.1 hj).1;have hd:j/12<xs.length:=ab;have hm:j%12<12:=ab;have hx:(xs[j/12]).length=12:=(HX _ (bQ hd)).1;have e1:=qZ (k:=12) (xs:=xs) (fun x hx=>(HX x hx).1) (j:=j/12) (List.getElem?_eq_getElem hd) (i:=j%12) (List.getElem?_eq_getElem (by rw[hx];exact hm));rw[Nat.div_add_mod']at e1
    rw[e1]at hj;cases hj;have:=g4 (j/12) _ (List.getElem?_eq_getElem hd) (j%12) _ (List.getElem?_eq_getElem (by rw[hx];exact hm));have ea:(Addr.add ⟨bk,o',none⟩ j)=⟨bk,o'+j,none⟩:=by unfold Addr.add;split<;>simp_all
    rw[ea, <-this]
    congr 2
    omega)
  have HF:=O (show xs.flatten.length=xs.length*12 from f_ (fun x hx=>(HX x hx).1));have TH:=O HX;obtain⟨i0,hi,pA,kP,kR⟩:=info_parts XK;clear HX h;go_enter func100,ntmps100
  go_wp2_with (at_builtin;refine wpList_append_own _ rfl _ _ 119 rfl w.heap.size 137 i0 (.agg #[.bool false,.string ⟨#[]⟩,.int .i64 0,.bool false,.string ⟨#[]⟩,.int .i64 0,.string ⟨#[]⟩,.string ⟨#[]⟩,.bool false,.string ⟨#[]⟩,.string ⟨#[]⟩,.int .i64 0]) 12 144 underlying119 hi pA kP kR rfl ag _ _ _ rfl (World.ownsRow_made w #[] 0 (az _) (aW _) rfl) ad xs.length c xs.flatten rfl HF.o ?qc2 ?qc3 ?qc4 ?qc5 ?qc6 ?_)
  case qc2 =>
   intro j u hj;exact Lib.cell?_alloc_some _ (HC.o j u hj)
  case qc3 =>
   intro u hu;obtain⟨x,hx,EY⟩:=fG.1 hu;exact(TH.o x hx).2 u EY
  case qc4=>unfold maxLen;omega
  case qc5=>omega
  case qc6=>simp
  intro v' w1 cQ jq IC;go_wp2;go_ret;refine⟨v',rfl,⟨TH.o,by simpa using cQ⟩,fe (((Below.refl _ w).alloc (az _) _).grown jq aS (by intro k hk;simp[Value.ownBlock]at hk;omega))⟩
theorem Yr:(prog.info? 105).map (fun i=>(i.zero,i.size,i.bytes))=some (some (.agg #[.bool false,.string ⟨#[]⟩,.int .i64 0,.int .i64 0]),4,40):=af
theorem Ys(v:Value)(xs:cX)(w:World)(h:ez 4 w v xs)(hl:xs.length<=1000000000) :
  aE 41 #[v] w fun e w'=>∃v',e=.returned v'/\OwnRows w.heap.size 105 4 w' v' xs/\Fr aX w w':=by
 obtain⟨a,c,hv⟩:=h.form;subst hv;have q22:∀(w:World) (a:fi) (n c n' c':Nat),(binOp .eql 92 (.slice a n c) (.slice none n' c')).run prog w=.ok (.bool a.isNone) w:=fun w a n c n' c'=>Lib.run_eql_slice_nil w _ _ a n c n' c' underlying92;cases a with
 |none =>
  obtain⟨rfl,rfl⟩:xs=[]/\c=0:=by
   rcases h.2 with ⟨a',c',hv,hs,hc⟩|⟨bk,o',c',hf,_⟩
   ·injection hv with e1 e2 e3
    exact⟨hs,e3.trans (hc e1.symm)⟩
   ·injection hf with e1;cases e1
  go_enter func41,ntmps41;go_wp2;go_ret;exact⟨_,rfl,dp _ _ _ _,ae _ _⟩
 |some ad =>
  have HX:=h.1;have HC:=O (show∀j u,xs.flatten[j]?=some u->w.cell? (ad.add j)=some u from fun j u hj=>by
   rcases h.2 with ⟨_,_,_,e,_⟩|⟨bk,o',c',hf,g1,g2,g3,g4⟩
   ·subst e;simp at hj
   ·cases hf;have yR:xs.flatten.length=xs.length*4:=f_ (fun x hx=>(HX x hx).1);have hjl:=(List.getElem?_eq_some_iff.1 hj).1;have hd:j/4<xs.length:=ab;have hm:j%4<4:=ab;have hx:(xs[j/4]).length=4:=(HX _ (bQ hd)).1;have e1:=qZ (k:=4) (xs:=xs) (fun x hx=>(HX x hx).1) (j:=j/4) (List.getElem?_eq_getElem hd) (i:=j%4) (List.getElem?_eq_getElem (by rw[hx];exact hm));rw[Nat.div_add_mod']at e1;rw[e1]at hj
    cases hj;have:=g4 (j/4) _ (List.getElem?_eq_getElem hd) (j%4) _ (List.getElem?_eq_getElem (by rw[hx];exact hm));have ea:(Addr.add ⟨bk,o',none⟩ j)=⟨bk,o'+j,none⟩:=by unfold Addr.add;split<;>simp_all
    rw[ea, <-this]
    congr 2
    omega)
  have HF:=O (show xs.flatten.length=xs.length*4 from f_ (fun x hx=>(HX x hx).1));have TH:=O HX;obtain⟨i0,hi,pA,kP,kR⟩:=info_parts Yr;clear HX h;go_enter func41,ntmps41
  go_wp2_with (at_builtin;refine wpList_append_own _ rfl _ _ 92 rfl w.heap.size 105 i0 (.agg #[.bool false,.string ⟨#[]⟩,.int .i64 0,.int .i64 0]) 4 40 underlying92 hi pA kP kR rfl ag _ _ _ rfl (World.ownsRow_made w #[] 0 (az _) (aW _) rfl) ad xs.length c xs.flatten rfl HF.o ?qc2 ?qc3 ?qc4 ?qc5 ?qc6 ?_)
  case qc2 =>
   intro j u hj;exact Lib.cell?_alloc_some _ (HC.o j u hj)
  case qc3 =>
   intro u hu;obtain⟨x,hx,EY⟩:=fG.1 hu;exact(TH.o x hx).2 u EY
  case qc4=>unfold maxLen;omega
  case qc5=>omega
  case qc6=>simp
  intro v' w1 cQ jq IC;go_wp2;go_ret;refine⟨v',rfl,⟨TH.o,by simpa using cQ⟩,fe (((Below.refl _ w).alloc (az _) _).grown jq aS (by intro k hk;simp[Value.ownBlock]at hk;omega))⟩
def adz(w:World)(p:a_->Bool)(xs:cX)(i:Value)(wr:World):Prop :=
 ∃k:Nat,k<=xs.length/\i=.int .i64 k/\(xs.take k).any p=false/\Fr aX w wr
theorem Ha(g:Nat)(cap:bW)(p:a_->Bool)(v:Value)(xs:cX)(w:World)(eg:∀args w,(callFunc g args).run prog w=.ok (.enter g args) w)(hp:hD aX w g cap p xs)(hv:ez 22 w v xs) :
  aE 37 #[v,.func (.func g) #[] cap] w fun e w'=>e=.returned (.int .i64 (lW p xs 0))/\Fr aX w w':=by
 obtain⟨av,cv,gi⟩:=hv.form;subst gi;have ec:=O hv.1;go_enter func37,ntmps37;go_wp2;go_loopw[8] (adz w p xs) (fun i _=>xs.length-(intOf i).toNat)
 case atStart=>exact⟨0,aW _,rfl,rfl,ae _ _⟩
 case round =>
  obtain⟨k,hk,rfl,hn,cR⟩:=hrel;have HN:=O hn;clear hn;by_cases fE:k<xs.length
  ·rcases(hv.i_ cR).2 with ⟨_,_,_,e,_⟩|⟨bk,of,c,hf,h1,h2,h3,h4⟩
   ·rw[e]at fE;exact absurd fE (ct _)
   ·cases hf;unfold maxLen at h2;have dT:=O (List.getElem?_eq_getElem fE);have hcell:=h4 k _ dT.o;have jc:=O (bQ fE);generalize xs[k]=x at dT hcell jc;have fF:=O (hp x jc.o wr cR);have lI:=(ec.o x jc.o).1;clear h4;cases rK:p x
    ·have p9:=O (any_take_succ dT.o HN.o rK);go_wp2_with (first|((with_reducible refine dt 15 ?_);refine bu rfl 33 (.tmp 14) rfl bk (of+k*22) rfl x _ hcell underlying33 rfl (Vp lI) ?_)|fail)
     refine fF.o.mono ?_;rintro e w1⟨rfl,dw⟩;rw[rK];go_wp2;go_roundw
     case rel=>exact⟨k+1,ab,bh,p9.o,cR.trans dw⟩
     case measure=>simp[intOf];omega
    ·have fl:=O (pR (i:=0) dT.o rK HN.o);go_wp2_with (first|((with_reducible refine dt 15 ?_);refine bu rfl 33 (.tmp 14) rfl bk (of+k*22) rfl x _ hcell underlying33 rfl (Vp lI) ?_)|fail)
     refine fF.o.mono ?_;rintro e w1⟨rfl,dw⟩;rw[rK];go_wp2;go_ret;rw[fl.o,bw];exact⟨rfl,cR.trans dw⟩
  ·have fl:=O (show lW p xs 0= -1 from kz (by have h:=HN.o;rw[aG ab]at h;exact h));go_wp2;go_ret;rw[fl.o];exact⟨rfl,cR⟩
theorem Bp(g:Nat)(cap:bW)(p:a_->Bool)(v:Value)(xs:cX)(w:World)(eg:∀args w,(callFunc g args).run prog w=.ok (.enter g args) w)(hp:hD aX w g cap p xs)(hv:ez 22 w v xs) :
  aE 25 #[v,.func (.func g) #[] cap] w fun e w'=>e=.returned (.bool (xs.any p))/\Fr aX w w':=by
 have hb:=O (tu p xs 0);go_enter func25,ntmps25;go_wp2_with fail
 refine(Ha g cap p v xs w eg hp hv).mono ?_;rintro e w1⟨rfl,dw⟩;go_wp2;go_ret;exact⟨fS hb.o,dw⟩
def bA(l:Bs):ai:=⟨l.toArray⟩
theorem fM(l:Bs):(bA l).data.toList=l:=by unfold bA;simp
theorem RV(s:ai):bA s.data.toList=s:=by unfold bA;simp
def ke(ps:List jn)(name:Bs):Option Bs:=(ps.find? fun p=>dH p.1 name).map (·.2)
def vh:Bs:=[114,101,97,108,109]
def FQ:Bs:=[98,97,115,105,99]
def Bv:Bs:=[100,105,103,101,115,116]
def yn:Bs:=[97,108,103,111,114,105,116,104,109]
def xr:Bs:=[77,68,53]
def FR:Bs:=[83,72,65,45,50,53,54]
def yo:Bs:=[45,115,101,115,115]
def vn:Bs:=[110,111,110,99,101]
def Iu:Bs:=[113,111,112]
def lN:Bs:=[97,117,116,104]
def pM:Bs:=[97,117,116,104,45,105,110,116]
def lO:Bs:=[111,112,97,113,117,101]
def zL:Bs:=[115,116,97,108,101]
def lD:Bs:=[116,114,117,101]
def qz:Bs:=[100,111,109,97,105,110]
def RW(s:Bs):Option (Int×Bool) :=
 if dH s xr then some (2,false)
 else if dH s (xr++yo)then some (2,true)
 else if dH s FR then some (3,false)
 else if dH s (FR++yo)then some (3,true)
 else none
def Nt(l:List Bs):Option Bs :=
 if l.any (fun w=>dH w lN)then some lN else if l.any (fun w=>dH w pM)then some pM else none
def RX(q:Bs):Option Bs :=
 match gO q with
 | .error _=>none
 | .ok l=>if 40<l.length then none else Nt l
def RY(ps:List jn):Option Bs :=
 match ke ps Iu with
 |none=>some []
 |some q=>RX q
def FT(d:Bs):List Bs:=((dY 32 d).filter fun p=>Ld 47 p).map oo
def mN(x:mW):Option (fX bG) :=
 match ke x.params vh with
 |none=>none
 |some aO =>
  if dH x.scheme FQ then some ⟨1,bA aO,bA [],bA [],false,bA [],false,[]⟩else
  match RW ((ke x.params yn).getD xr)with
  |none=>none
  |some (k,cy) =>
   if !dH x.scheme Bv then none else
   match ke x.params vn with
   |none=>none
   |some bC =>
    match RY x.params with
    |none=>none
    |some q=>some ⟨k,bA aO,bA bC,bA ((ke x.params lO).getD []),cy,bA q,dH ((ke x.params zL).getD []) lD,(FT ((ke x.params qz).getD [])).map bA⟩
def Nu:fX bG:=⟨0,bA [],bA [],bA [],false,bA [],false,[]⟩
def po(a:fX bG)(x:mW):fX bG :=
 match mN x with
 |none=>a
 |some b=>if a.scheme<b.scheme then b else a
def iY(l:List mW):fX bG:=l.foldl po Nu
theorem Lg(l:List mW)(x:mW):iY (l++[x])=po (iY l) x:=by simp[iY]
