/- Lemmas for the law's walk. -/
import Derived.Test.YtnckmcnffadjoaaGreatDoorPk6
import Derived.Test.YtnckmcnffadjoaaGreatDoorPk7
set_option maxRecDepth 100000
set_option maxHeartbeats 16000000
set_option linter.unusedSimpArgs false
namespace Go.Proofs.YtnckmcnffadjoaaGreatDoor
open Go.Proofs.Tryz
open Go.RowKit
variable {w W wc A B:World} {g k:Nat} {laid:List (String×DataW Unit)} {x:aj} {pre:List aj}
theorem Qb{P:Program}{W:World}{x:String×DataW Unit}:∀ {laid:List (String×DataW Unit)},laidMet P laid W->x∈laid->∃r,laidMet P (x :: r) W
 |y :: l,h,hm=>by
  rcases bB.1 hm with rfl|hm
  ·exact⟨l,h⟩
  ·exact Qb (laidMet.tail h) hm
theorem rM{P:Program}{W:World}{laid:List (String×DataW Unit)}{name:String}{k:IntKind}{zs:List Int}{g:Nat}{t e:TypeId}{n:Nat}
  (h:laidMet P laid W)(hm:(name,Lib.tabData k zs)∈laid)
  (hg:P.globalNamed name=some g)(TF:(P.globals[g]?).map (·.type)=some t)(ht:P.underlying t=some (.array n e))(he:P.underlying e=some (.int k))(hce:P.cellsOf e=1)(hct:P.cellsOf t=n):Lib.TabIs P W name k zs:=by
 obtain⟨r,hr⟩:=Qb h hm;exact Lib.tabIs_of_head hg TF ht he hce hct hr
theorem ZA{i:Nat}{v:Value}(h:w.cell? ⟨g,i,none⟩=some v):g<w.heap.size:=by
 cases hb:w.heap[g]? with
 |none=>simp[World.cell?,hb]at h
 |some o=>exact bj hb
theorem wL{P:Program}{name:String}{k:IntKind}{zs:List Int}(hT:Lib.TabIs P W name k zs)(hg:P.globalNamed name=some g)(hz:0<zs.length):om W g k zs:=by
 have hc:∀(i:Nat) z,zs[i]?=some z->W.cell? ⟨g,i,none⟩=some (.int k z):=fun i z hi=>by
  obtain⟨hl,he⟩:=List.getElem?_eq_some_iff.1 hi;rw[hT.cell hg i hl,List.getD_eq_getElem?_getD,hi];rfl
 exact⟨ZA (hc 0 _ (List.getElem?_eq_getElem hz)),hc⟩
theorem B8(h:laidMet prog laid W)(hm:("gatepost/api.Sines",Lib.tabData .u32 DN)∈laid/\("gatepost/sum.turns",Lib.tabData .i64 (oT.map Int.ofNat))∈laid):tI W :=
 ⟨wL (rM h hm.1 (g:=3) af af underlying293 underlying290 af af) af ag,
  wL (rM h hm.2 (g:=4) af af underlying299 underlying3 af af) af ag⟩
theorem B9(h:laidMet prog laid W)(hm:("gatepost/api.Roots",Lib.tabData .u32 DT)∈laid/\("gatepost/api.Begin",Lib.tabData .u32 UU)∈laid):tL W :=
 ⟨wL (rM h hm.1 (g:=2) af af underlying293 underlying290 af af) af ag,
  wL (rM h hm.2 (g:=1) af af underlying291 underlying290 af af) af ag⟩
def Rw(c:UInt8):Bool:=c<32||c==127
def lI(s:aj):Bool:=s.data.toList.all fun c=>!Rw c
def DZ(user pass:aj):aj:=⟨([66,97,115,105,99,32]++vN (user.data.toList++[58]++pass.data.toList)).toArray⟩
def mT(user pass:aj)(e:Ending):Prop :=
 if 0<=Lib.indexByte user.data.toList 58 then e=.returned (.tuple #[.string ⟨#[]⟩,.iface 105 (.int .i64 1)])
 else if lI user&&lI pass then e=.returned (.tuple #[.string (DZ user pass),.nilIface])
 else e=.returned (.tuple #[.string ⟨#[]⟩,.iface 105 (.int .i64 3)])
def ahZ(user pass:aj)(w:World)(i:Value)(wr:World):Prop:=∃k:Nat,k<=2/\i=.int .i64 k/\(0<k->lI user=true)/\(1<k->lI pass=true)/\Fr aR w wr
def anO(s:aj)(w:World)(i:Value)(wr:World):Prop:=∃k:Nat,k<=s.size/\i=.int .i64 k/\(s.data.toList.take k).all (fun c=>!Rw c)=true/\Fr aR w wr
theorem II{a b:aj}(h:[a,b][k]?=some x):k=0/\x=a\/k=1/\x=b:=by
 match k,h with
 |0,h=>exact .inl ⟨rfl,by simpa using h.symm⟩
 |1,h=>exact .inr ⟨rfl,by simpa using h.symm⟩
 |k+2,h=>simp at h
theorem GD(user pass:aj)(w:World)(hu:user.size<=100000)(hp:pass.size<=100000) :
  Calls prog 49 #[.agg #[.string user,.string pass]] w fun e w'=>mT user pass e/\Fr aR w w':=by
 have ks:Fr aR w (w.alloc (.cells #[.string user,.string pass] 39)):=(ae aR w).alloc _;have qe:=aB w (.cells #[.string user,.string pass] 39);by_cases hc:0<=Lib.indexByte user.data.toList 58
 ·have HP:=O (show∀e,mT user pass e↔e=.returned (.tuple #[.string ⟨#[]⟩,.iface 105 (.int .i64 1)])from fun e=>by unfold mT;rw[az hc]);have hd:decide (0<=Lib.indexByte user.data.toList 58)=true:=bf hc;go_enter func49,ntmps49;go_wp2_with fail
  refine(strings_Contains_one user 58 _).mono ?_;rintro e u1⟨rfl,rfl⟩;rw[hd];go_wp2;go_ret2;exact⟨(HP.o _).2 rfl,ks⟩
 ·have hd:decide (0<=Lib.indexByte user.data.toList 58)=false:=bh hc;have Cw:=O (show(lI user&&lI pass)=false->mT user pass (.returned (.tuple #[.string ⟨#[]⟩,.iface 105 (.int .i64 3)]))from fun h=>by unfold mT;rw[aq hc,aq (by simp[h])]);have NL:=O (show(lI user&&lI pass)=true->mT user pass (.returned (.tuple #[.string (DZ user pass),.nilIface]))from fun h=>by unfold mT;rw[aq hc,az h])
  have mr:=O ks;have HCA:=O (show∀U,Fr aR (w.alloc (.cells #[.string user,.string pass] 39)) U->U.cell? ⟨w.heap.size,0,none⟩=some (.string user)/\U.cell? ⟨w.heap.size,1,none⟩=some (.string pass)from fun U hU=>by
   have su:=hU.keep qe (fun h=>h);simp[World.cell?,su])
  have M3:Fr aR w ((w.alloc (.cells #[.string user,.string pass] 39)).alloc (.cells #[.string user,.string pass] 9)):=ks.alloc _;have vt:∀U,Fr aR ((w.alloc (.cells #[.string user,.string pass] 39)).alloc (.cells #[.string user,.string pass] 9)) U ->
    U.cell? ⟨w.heap.size,0,none⟩=some (.string user)/\U.cell? ⟨w.heap.size,1,none⟩=some (.string pass)/\∀(k:Nat) x,[user,pass][k]?=some x->U.cell? ⟨w.heap.size+1,k,none⟩=some (.string x):=fun U hU=>by
   have mf:=hU.keep (((ae aR _).alloc _).keep qe (fun h=>h)) (fun h=>h);have su:=hU.keep (aB (w.alloc (.cells #[.string user,.string pass] 39)) (.cells #[.string user,.string pass] 9)) (fun h=>h);rw[bM]at su;refine⟨by simp[World.cell?,mf],by simp[World.cell?,mf],fun k x hx=>?_⟩;rcases II hx with ⟨rfl,rfl⟩|⟨rfl,rfl⟩<;>simp[World.cell?,su]
  have zO:=O vt;have rO:=O M3;clear ks qe vt M3;go_enter func49,ntmps49;go_wp2_with fail
  refine(strings_Contains_one user 58 _).mono ?_;rintro e u1⟨rfl,rfl⟩;rw[hd];go_wp2;obtain⟨wl,Fh⟩:∃wl,wl=(w.alloc (.cells #[.string user,.string pass] 39)).alloc (.cells #[.string user,.string pass] 9):=⟨_,rfl⟩;rw[<-Fh]at zO rO ⊢;clear Fh;go_loopw[17] (ahZ user pass wl) (fun i _=>2-(intOf i).toNat)
  case atStart=>exact⟨0,ab,rfl,ab,ab,ae _ _⟩
  case round =>
   obtain⟨k,hk,rfl,pg,df,cK⟩:=hrel;generalize wr=wo at *
   by_cases su:k<2
   ·have anP:(k:Int)<2:=ab;obtain⟨s,hs⟩:∃s,[user,pass][k]?=some s:=⟨_,List.getElem?_eq_getElem (by simpa using su)⟩;have hcell:=(zO.o wo cK).2.2 k s hs;have xM:s.size<=100000:=by rcases II hs with ⟨_,rfl⟩|⟨_,rfl⟩<;>assumption
    have Cx:=O (show lI s=true->(0<k+1->lI user=true)/\(1<k+1->lI pass=true)from fun h=>by
     rcases II hs with ⟨rfl,rfl⟩|⟨rfl,rfl⟩
     ·exact⟨fun _=>h,fun h=>ab⟩
     ·exact⟨fun _=>pg ab,fun _=>h⟩)
    have HNO:=O (show lI s=false->(lI user&&lI pass)=false from fun h=>by
     rcases II hs with ⟨rfl,rfl⟩|⟨rfl,rfl⟩<;>simp[h])
    clear hs pg df;go_wp2;go_loopw[23] (anO s wl) (fun i _=>s.size-(intOf i).toNat)
    case atStart=>exact⟨0,ab,rfl,rfl,cK⟩
    case round =>
     obtain⟨j,hj,rfl,iB,js⟩:=hrel;by_cases hj2:j<s.size
     ·have anQ:(j:Int)<(s.size:Int):=ab;have qZ:=byte_at s j hj2;by_cases hb:Rw s[j]=true
      ·have HFI:=O (show lI s=false by
        unfold lI;rw[jl];exact⟨s[j],bT qZ,by simp[hb]⟩)
       have hor:s[j].toNat<32\/s[j].toNat=127:=by
        unfold Rw at hb;simp only[Bool.or_eq_true,dD,dT]at hb;rcases hb with h|h
        ·exact .inl (UInt8.lt_iff_toNat_lt.1 h)
        ·exact .inr (by rw[h];rfl)
       by_cases h32:s[j].toNat<32
       ·have ah1:(s[j].toNat:Int)<32:=ab;go_wp2;go_ret2;exact⟨Cw.o (HNO.o HFI.o),rO.o.trans js⟩
       ·have ah1:¬(s[j].toNat:Int)<32:=ab;have auZ:s[j].toNat=127:=ab;have ah2:(s[j].toNat:Int)=127:=ab;go_wp2;go_ret2;exact⟨Cw.o (HNO.o HFI.o),rO.o.trans js⟩
      ·have hor:¬s[j].toNat<32/\¬s[j].toNat=127:=by
        unfold Rw at hb;simp only[Bool.or_eq_true,dD,dT,not_or]at hb;exact⟨fun h=>hb.1 (UInt8.lt_iff_toNat_lt.2 h),fun h=>hb.2 (iX.1 h)⟩
       obtain⟨o1,o2⟩:=hor;have ah1:¬(s[j].toNat:Int)<32:=ab;have ah2:¬(s[j].toNat:Int)=127:=ab;have A':=O (show(s.data.toList.take (j+1)).all (fun c=>!Rw c)=true by
        rw[bZ,qZ,j9,iB];simp[hb])
       clear qZ iB;go_wp2;go_roundw
       case rel=>exact⟨j+1,ab,a_,A'.o,js⟩
       case measure=>simp[intOf];omega
     ·have anQ:¬(j:Int)<(s.size:Int):=ab;have HFI:=O (show lI s=true by
       unfold lI;rw[aC bG]at iB;exact iB)
      clear iB;go_wp2;go_roundw
      case rel=>exact⟨k+1,ab,a_,(Cx.o HFI.o).1,(Cx.o HFI.o).2,js⟩
      case measure=>simp[intOf];omega
   ·have anP:¬(k:Int)<2:=ab;have Bf:(lI user&&lI pass)=true:=by rw[pg ab,df ab];rfl
    have HPO:=O (NL.o Bf);obtain⟨c0,c1,_⟩:=zO.o wo cK;have qj:¬9223372036854775807<user.size+1:=ab;have kC:¬9223372036854775807<user.size+1+pass.size:=ab;clear pg df Bf;have anR:=O (fun W=>NJ (user++⟨#[58]⟩++pass) W (by simp[jg];show user.size+1+pass.size<_;omega));have xG:=O (show(vN (user++⟨#[58]⟩++pass).data.toList).length<=400000 from by rw[Qi];simp[gN];omega)
    have HEQ:=O (show(⟨#[66,97,115,105,99,32]⟩++⟨(vN (user++⟨#[58]⟩++pass).data.toList).toArray⟩:aj)=DZ user pass from by
     apply Go.WideShapes.bytes_inj;unfold DZ;simp[gN])
    go_wp2_with fail
    refine(anR.o _).mono ?_;rintro e w7⟨rfl,nI⟩;generalize vN (user++⟨#[58]⟩++pass).data.toList=bl at *
    have tK:¬9223372036854775807<6+bl.length:=by have:=xG.o;omega
    go_wp2;go_ret2;rw[<-HEQ.o]at HPO;exact⟨HPO.o,(rO.o.trans cK).trans nI⟩
open Go.RowKit Go.Shelf
attribute [local go_sem] Oper.semAt_some
theorem IK(s sep:aj)(w:World) :
  Calls prog 153 #[.string s,.string sep] w fun e w' =>
   e=.returned (.func (.func 234) #[] #[.pointer (some ⟨w.heap.size+1,0,none⟩),.pointer (some ⟨w.heap.size,0,none⟩),.pointer (some ⟨w.heap.size+2,0,none⟩)]) /\
   w'=((w.alloc (.cells #[.string s] 9)).alloc (.cells #[.string sep] 9)).alloc (.cells #[.int .i64 0] 3):=by
 have X6:Calls prog 203 #[.string s,.string sep,.int .i64 0] w fun e w' =>
   e=.returned (.func (.func 234) #[] #[.pointer (some ⟨w.heap.size+1,0,none⟩),.pointer (some ⟨w.heap.size,0,none⟩),.pointer (some ⟨w.heap.size+2,0,none⟩)]) /\
   w'=((w.alloc (.cells #[.string s] 9)).alloc (.cells #[.string sep] 9)).alloc (.cells #[.int .i64 0] 3):=by
  go_enter func203,ntmps203;go_wp2;go_ret;exact⟨rfl,rfl⟩
 go_enter func153,ntmps153;go_wp2_with fail
 refine X6.mono ?_;rintro e w1⟨rfl,rfl⟩;go_wp2;go_ret;exact⟨rfl,rfl⟩
theorem Va(f:aG->Nat):∀(L:List (aG)) (l:aG),l∈L->f l<=(L.map f).sum
 |a :: L,l,h=>by
  simp only[cA,List.sum_cons];rcases bB.1 h with rfl|h
  ·omega
  ·have:=Va f L l h;omega
theorem NT{c:UInt8}{s:aj}(h:x∈jc c s):x.size<=s.size:=by
 unfold jc at h;obtain⟨l,hl,rfl⟩:=bV.1 h;have h1:=Bi c s.data.toList;have h2:l.length+1<=((dZ c s.data.toList).map fun p=>p.length+1).sum:=Va (fun p=>p.length+1) _ l hl;have h3:s.data.toList.length=s.size:=aQ;show l.toArray.size<=_;simp only[aW];omega
def ri:aj:=⟨#[97,98,99,100,101,102,103,104,105,106,107,108,109,110,111,112,113,114,115,116,117,118,119,120,121,122,48,49,50,51,52,53,54,55,56,57,45]⟩
theorem FE:∀b∈ri.data.toList,b.toNat<128:=dp
theorem Li:∀n:Fin 256,ri.data.toList.contains n.val.toUInt8=Kp n.val.toUInt8:=dp
theorem Cb(l:aG):l.all (ri.data.toList.contains ·)=l.all Kp:=by
 congr 1;funext c
 have h:=Li ⟨c.toNat,c.toNat_lt⟩;simpa using h
def uN(s:aj):Bool:=PN s.data.toList
def wN(w wc W:World):Prop:=W.heap[w.heap.size]?=some (.cells #[.bool false] 4 (0,0))/\Fr aR w W/\wc.heap.size<=W.heap.size
def Lj(w wc:World)(pre:List aj)(W:World):Prop:=(∀p∈pre,Dj p.data.toList=true)/\wN w wc W
def Vb(w wc:World)(pre:List aj)(W:World):Prop:=(∃p∈pre,Dj p.data.toList=false)/\wN w wc W
theorem wN.fr(hz:wc.heap.size=w.heap.size+4)(h:wN w wc A)(hf:Fr (D0 (w.heap.size+1) wc.heap.size) A B):wN w wc B :=
 ⟨hf.keep h.1 (by unfold D0;omega),h.2.1.step hf (fun j hj hk=>by unfold D0 at hk;omega),aD h.2.2 hf.size⟩
theorem wN.grow(h:wN w wc A)(hf:Fr aR A B):wN w wc B:=⟨hf.keep h.1 (fun h=>h),h.2.1.trans hf,aD h.2.2 hf.size⟩
theorem wN.put(h:wN w wc A):wN w wc (A.setCell ⟨w.heap.size,0,none⟩ (.bool false)) :=
 ⟨by simp[World.setCell,Array.getElem?_modify,h.1],h.2.1.gI (p:=⟨w.heap.size,0,none⟩) (ay _) _,by simpa[World.setCell]using h.2.2⟩
theorem Fr.others(h:Fr aR A B):KeepsOthers A B:=⟨h.size,fun _ _ hk _=>h.keep hk (fun h=>h)⟩
theorem Fr.adP(h:Fr aR A B)(hk:k+3<=A.heap.size):wM k A B:=fun j _ h2=>h.block j ab (fun h=>h)
theorem Vc(h:Lj w wc pre W)(hx:Dj x.data.toList=false)(A:World)(hA:Fr aR W A)(aa:Act) :
  NM (w.heap.size+1) (Lj w wc) (Vb w wc) (pre++[x]) W .ret aa (A.setCell ⟨w.heap.size,0,none⟩ (.bool false)) :=
 ⟨hA.others.trans (KeepsOthers.setCell A _ _),⟨x,aQ,hx⟩,(h.2.grow hA).put⟩
theorem RD(hz:wc.heap.size=w.heap.size+4)(h:Lj w wc pre W)(hx:Dj x.data.toList=true)(A:World)(hA:Fr aR W A)(aa:Act) :
  NM (w.heap.size+1) (Lj w wc) (Vb w wc) (pre++[x]) W .normal aa A :=
 ⟨hA.others,hA.adP (by have:=h.2.2.2;omega),fun p hp=>by
  rcases bK.1 hp with hp|hp
  ·exact h.1 p hp
  ·rw[cE]at hp;subst hp;exact hx,h.2.grow hA⟩
theorem Vd(s:aj)(w:World)(hs:s.size<100000) :
  Calls prog 92 #[.string s] w fun e w'=>e=.returned (.bool (uN s))/\Fr aR w w':=by
 by_cases h60:60<s.size
 ·have i60:(60:Int)<(s.size:Int):=ab;have HT:=O (show uN s=false by unfold uN PN;rw[bh (by simpa using h60)];rfl);go_enter func92,ntmps92;go_wp2;refine aS (v:=.bool false) ?_ rfl ⟨by rw[HT.o],?_⟩
  ·simp[results,Tryz.f92,go_sem]
  ·first|exact(ae aR w).alloc _|exact((ae aR w).alloc _).gI (p:=⟨w.heap.size,0,none⟩) (ay _) _
 ·have i60:¬(60:Int)<(s.size:Int):=ab;obtain⟨wb,j_⟩:∃wb,wb=w.alloc (.cells #[.bool false] 4):=⟨_,rfl⟩;have hzb:wb.heap.size=w.heap.size+1:=by rw[j_];simp
  have ks:Fr aR w wb:=by rw[j_];exact(ae aR w).alloc _
  have NU:wb.heap[w.heap.size]?=some (.cells #[.bool false] 4 (0,0)):=by rw[j_];exact aB _ _
  obtain⟨wc,hwc⟩:∃wc,wc=((wb.alloc (.cells #[.string s] 9)).alloc (.cells #[.string ⟨#[46]⟩] 9)).alloc (.cells #[.int .i64 0] 3):=⟨_,rfl⟩;have hfc:Fr aR wb wc:=by rw[hwc];exact(((ae aR wb).alloc _).alloc _).alloc _
  have hzc:wc.heap.size=w.heap.size+4:=by rw[hwc];simp[hzb]
  have hc0:wc.heap[w.heap.size+1]?=some (.cells #[.string s] 9 (0,0)):=by
   rw[hwc, <-hzb];exact(((ae aR _).alloc _).alloc _).keep (aB wb _) (fun h=>h)
  have px:wc.heap[w.heap.size+1+1]?=some (.cells #[.string ⟨#[46]⟩] 9 (0,0)):=by
   rw[hwc, <-hzb];have:=((ae aR _).alloc (.cells #[.int .i64 0] 3)).keep (aB (wb.alloc (.cells #[.string s] 9)) (.cells #[.string ⟨#[46]⟩] 9)) (fun h=>h);simpa using this
  have sN:wc.heap[w.heap.size+1+2]?=some (.cells #[.int .i64 0] 3 (0,0)):=by
   rw[hwc, <-hzb];have:=aB ((wb.alloc (.cells #[.string s] 9)).alloc (.cells #[.string ⟨#[46]⟩] 9)) (.cells #[.int .i64 0] 3);simpa using this
  have HSS:=O ((IK s ⟨#[46]⟩ wb).mono (R':=fun e w'=>e=.returned (.func (.func 234) #[] #[.pointer (some ⟨w.heap.size+1+1,0,none⟩),.pointer (some ⟨w.heap.size+1,0,none⟩),.pointer (some ⟨w.heap.size+1+2,0,none⟩)])/\wc=w') (fun e w' h=>by rw[hzb, <-hwc]at h;exact⟨h.1,h.2.symm⟩));have qY:=O j_;clear j_ hwc;refine(callsIn_wide (n:=5)).1 ?_;refine callsIn_of_wp_marks func92 rfl trivial ?_ rfl
  simp only[ntmps92,aW,List.length_cons,List.length_nil,Nat.reduceAdd,Nat.reduceSub,Array.replicate_succ,Array.replicate_zero,List.push_toArray,List.append_toArray,List.nil_append,List.cons_append]
  gi_wp2_with fail
  rw[<-qY.o];refine⟨trivial,?_⟩;refine(callsIn_wide.2 HSS.o).mono ?_;rintro e u⟨rfl,rfl⟩;gi_wp2;have hkc:=hfc.keep NU (fun h=>h);have aib:=ks.trans hfc;have adR:=O (show uN s=(jc 46 s).all (fun p=>Dj p.data.toList)by
   unfold uN PN jc;rw[bf (by simpa using Nat.le_of_not_lt h60),jL,List.all_map];rfl)
  refine Bh rfl ag (gf:=234) (lb:= #[.pointer (some ⟨w.heap.size+1+1,0,none⟩),.pointer (some ⟨w.heap.size+1,0,none⟩),.pointer (some ⟨w.heap.size+1+2,0,none⟩)]) rfl trivial (enters_of func234 af rfl)
   (enc:=fun x:aj=>Value.string x) (k:=w.heap.size+1) (ys:=jc 46 s) ab (Cz s (w.heap.size+1) 4 wc ag hs hc0 px sN) rfl
   (Lj w wc) (Vb w wc) (fun xs A B h f=>⟨h.1,h.2.fr hzc f⟩) (fun xs A B h f=>⟨h.1,h.2.fr hzc f⟩) ⟨(fun p hp=>by cases hp),hkc,aib,ay _⟩
   (fun x=>{tmps:= #[.string s,undef,.pointer (some ⟨w.heap.size,0,none⟩),.string x,.string s,.int .i64 s.size,.bool false,.string s,.func (.func 234) #[] #[.pointer (some ⟨w.heap.size+1+1,0,none⟩),.pointer (some ⟨w.heap.size+1,0,none⟩),.pointer (some ⟨w.heap.size+1+2,0,none⟩)],.string x,undef,undef,undef,undef,undef,undef,undef,undef,undef,undef,undef,undef,undef,undef,undef,undef,undef,undef,undef,undef],defers:=[]}) ?assign ?body ?done ?stop
  case assign =>
   intro l x W K hK;gi_wp2;exact hK
  case body =>
   intro l pre x W hi hxp;have hxz:x.size<=s.size:=NT (hxp.subset aQ);clear hxp;have GF:=O (fun hx=>RD (x:=x) hzc hi hx);have Cw:=O (fun hx=>Vc (x:=x) hi hx);obtain⟨_,hr,_,_⟩:=hi;have HR:=O hr;have c0:W.cell? ⟨w.heap.size,0,none⟩=some (.bool false):=by simp[World.cell?,hr]
   have c1:W.frozen? ⟨w.heap.size,0,none⟩=false:=by simp[World.frozen?,hr]
   clear hr NU hkc hc0 px sN ks hfc aib hzb HSS qY adR;by_cases IL:x.size=0
   ·have hl:Dj x.data.toList=false:=by
     have:x.data.toList=[]:=by apply cg;simpa using IL
     rw[this];rfl
    have hem:x.toList=[]:=by rw[aO];apply cg;simpa using IL
    have au6:x.toList.isEmpty=true:=by rw[hem];rfl
    have HB:=O (Cw.o hl);clear hl Cw GF;gi_wp2;refine⟨trivial,?_⟩;gi_wp2;exact HB.o W (ae _ _) _
   ·obtain⟨m,hm⟩:∃m,x.size=m+1:=⟨x.size-1,ab⟩;have hne:¬x.toList=[]:=by rw[aO];intro h;apply IL;have:=ar List.length h;simpa using this
    have Ve:x.toList.isEmpty=false:=by simpa using hne
    have HEM:=O (show x.data.toList.isEmpty=false by rw[<-aO];exact Ve);have HH0:=O (show x.data.toList.head?=some (x[0]'ab)by rw[List.head?_eq_getElem?];exact byte_at x 0 ab);have HHL:=O (show x.data.toList.getLast?=some (x[m]'ab)by
     rw[List.getLast?_eq_getElem?]
     have:x.data.toList.length-1=m:=by have:x.data.toList.length=x.size:=by simp
                                       omega
     rw[this];exact byte_at x m ab)
    have hm1:((x.size:Nat):Int)-1=(m:Int):=ab;have JR:(m:Int)<(x.size:Int):=ab;have hm3:(0:Int)<=(m:Int):=ab;have hm4:m<x.size:=ab;have hm5:0<x.size:=ab;have hm6:(0:Int)<(x.size:Int):=ab;have Vf:∀c:UInt8,c=45↔(c.toNat:Int)=45:=fun c=>by
     constructor
     ·rintro rfl;rfl
     ·intro h;exact UInt8.toNat.inj (by have:(45:UInt8).toNat=45:=rfl;omega)
    by_cases ZH:x[0]'ab=45
    ·have i0:(((x[0]'ab).toNat:Int)==45)=true:=dT.2 ((Vf _).1 ZH);have i0':((x[0]'ab).toNat:Int)=45:=(Vf _).1 ZH;have HB:=O (Cw.o (by unfold Dj;rw[HH0.o,ZH];simp));clear Cw GF HEM HH0 HHL Vf ZH;gi_wp2;refine⟨trivial,?_⟩;gi_wp2;exact HB.o W (ae _ _) _
    ·have i0:(((x[0]'ab).toNat:Int)==45)=false:=aN.2 (fun h=>ZH ((Vf _).2 h));have i0':¬((x[0]'ab).toNat:Int)=45:=fun h=>ZH ((Vf _).2 h);by_cases g45:x[m]'ab=45
     ·have i1:(((x[m]'ab).toNat:Int)==45)=true:=dT.2 ((Vf _).1 g45);have i1':((x[m]'ab).toNat:Int)=45:=(Vf _).1 g45;have HB:=O (Cw.o (by unfold Dj;rw[HHL.o,g45];simp));clear Cw GF HEM HH0 HHL Vf g45 ZH;gi_wp2;refine⟨trivial,?_⟩;gi_wp2;exact HB.o W (ae _ _) _
     ·have i1:(((x[m]'ab).toNat:Int)==45)=false:=aN.2 (fun h=>g45 ((Vf _).2 h));have i1':¬((x[m]'ab).toNat:Int)=45:=fun h=>g45 ((Vf _).2 h);have xG:=O (show Dj x.data.toList=x.data.toList.all Kp by
       unfold Dj;rw[HEM.o,HH0.o,HHL.o,show(some (x[0]'ab)==some 45)=false by simpa using ZH,show(some (x[m]'ab)==some 45)=false by simpa using g45];rfl)
      have HTR:=O (sR x ri W ab ag ag FE);clear HEM HH0 HHL Vf g45 ZH
      gi_wp2_with fail
      refine⟨trivial,?_⟩;refine(CallsIn.inRound l (callsIn_wide.2 HTR.o)).mono ?_;rintro e u⟨rfl,yC⟩;cases iB:x.data.toList.all Kp
      ·have PO:Lib.trimS x.data.toList ri.data.toList≠ []:=fun h=>by rw[xl,Cb,iB]at h;cases h
       have t1:¬(⟨(Lib.trimS x.data.toList ri.data.toList).toArray⟩:aj).toList=[]:=by rw[aO];simpa using PO
       have t2:(⟨(Lib.trimS x.data.toList ri.data.toList).toArray⟩:aj).toList.isEmpty=false:=by simpa using t1
       have HB:=O (Cw.o (xG.o.trans iB));have Nv:=yC.keep HR.o (fun h=>h);have d0:u.cell? ⟨w.heap.size,0,none⟩=some (.bool false):=by simp[World.cell?,Nv]
       have d1:u.frozen? ⟨w.heap.size,0,none⟩=false:=by simp[World.frozen?,Nv]
       clear PO iB Cw GF xG HTR c0 c1;generalize (⟨(Lib.trimS x.data.toList ri.data.toList).toArray⟩:aj)=z at *
       gi_wp2;exact HB.o u yC _
      ·have PO:Lib.trimS x.data.toList ri.data.toList=[]:=by rw[xl,Cb,iB]
       rw[PO];have HG:=O (GF.o (xG.o.trans iB));clear PO iB Cw GF xG HTR;gi_wp2;exact HG.o u yC _
  case done =>
   rintro D W rfl⟨iB,hw⟩hd;have c0:W.cell? ⟨w.heap.size,0,none⟩=some (.bool false):=by simp[World.cell?,hw.1]
   have c1:W.frozen? ⟨w.heap.size,0,none⟩=false:=by simp[World.frozen?,hw.1]
   have HT:=O (show uN s=true by rw[adR.o,gA];exact iB);have HF:=O hw.2.1;clear hw;gi_wp2;have tV:=(KeepsOthers.setCell W ⟨w.heap.size,0,none⟩ (.bool true)).same _ _ hd rfl;refine⟨aQ,.inl ⟨_,_,rfl,run_takeDeferred tV,?_⟩⟩
   have uz:=cell_kept (World.cell?_setCell_same' W ⟨w.heap.size,0,none⟩ (.bool true) (by rw[c0];rfl)) (grownBy_putObj' _ wc.heap.size (.deferred none)) (fun r e=>by cases e;exact⟨_,tV,rfl⟩);refine⟨.bool true,?_,by rw[HT.o],(HF.o.gI (p:=⟨w.heap.size,0,none⟩) (ay _) _).putObj (fun hl=>ab) _⟩;simp[results,Tryz.f92,go_sem,uz]
  case stop =>
   rintro D xs W rfl hxs⟨⟨p,hp,hlp⟩,hw⟩hd;have HT:=O (show uN s=false by rw[adR.o,jl];exact⟨p,hxs.subset hp,by simp[hlp]⟩);have c0:W.cell? ⟨w.heap.size,0,none⟩=some (.bool false):=by simp[World.cell?,hw.1]
   have HF:=O hw.2.1;clear hw;gi_wp2;refine⟨aQ,.inl ⟨_,_,rfl,run_takeDeferred hd,?_⟩⟩;have uz:=cell_kept c0 (grownBy_putObj' _ wc.heap.size (.deferred none)) (fun r e=>by cases e;exact⟨_,hd,rfl⟩);refine⟨.bool false,?_,by rw[HT.o],HF.o.putObj (fun hl=>ab) _⟩;simp[results,Tryz.f92,go_sem,uz]
def nW(o:gz):Bool:=ac' ⟨o.aF,o.host.data.toList,o.port⟩
theorem GG(o:gz)(w:World)(hs:o.host.size<100000) :
  Calls prog 46 #[.agg o.cells.toArray] w fun e w'=>e=.returned (.bool (nW o))/\Fr aR w w':=by
 obtain⟨sec,host,port⟩:=o;unfold gz.cells;have HR:=O (show nW ⟨sec,host,port⟩=(uN host&&(decide (1<=port)&&decide (port<=65535)))from rfl);obtain⟨wb,j_⟩:∃wb,wb=w.alloc (.cells #[.bool sec,.string host,.int .i64 port] 32):=⟨_,rfl⟩;have ks:Fr aR w wb:=by rw[j_];exact(ae aR w).alloc _
 have mf:wb.heap[w.heap.size]?=some (.cells #[.bool sec,.string host,.int .i64 port] 32 (0,0)):=by rw[j_];exact aB _ _
 have qY:=O j_;clear j_;go_enter func46,ntmps46;go_wp2_with fail
 rw[<-qY.o];refine(Vd host wb hs).mono ?_;rintro e u⟨rfl,yC⟩;have su:=yC.keep mf (fun h=>h);have c2:u.cell? ⟨w.heap.size,2,none⟩=some (.int .i64 port):=by simp[World.cell?,su]
 generalize uN host=b at *
 cases b
 ·go_wp2;go_ret;exact⟨by rw[HR.o];rfl,ks.trans yC⟩
 ·by_cases h1:1<=port
  ·have d1:decide (1<=port)=true:=bf h1;go_wp2;go_ret;exact⟨by rw[HR.o,d1];rfl,ks.trans yC⟩
  ·have d1:decide (1<=port)=false:=bh h1;go_wp2;go_ret;exact⟨by rw[HR.o,d1];rfl,ks.trans yC⟩
theorem rR(base:Nat)(v:Value)(ss:List aj)(w:World)(h:dr base w v ss) :
  Calls prog 115 #[v] w fun e w'=>∃a c,e=.returned (.slice a ss.length c)/\dr base w' (.slice a ss.length c) ss/\Fr aR w w':=by
 have hl:=h.tG;rcases h.rd with ⟨a,c,rfl,rfl,_⟩|⟨bk,o,c,rfl,h1,h2,h3,h4⟩
 ·cases a with
  |none=>exact(slices_Clone_string_nil 0 c w).mono fun e w' ⟨he,hw⟩=>⟨none,0,he,dr.nil _ _,hw▸ae _ _⟩
  |some a =>
   refine(slices_Clone_string_zero a c w).mono fun e w' ⟨v',he,ho,_,hb⟩=>?_;have hs:Strs w.heap.size w' v' []:=ho;obtain⟨a',c',hv⟩:=hs.form;exact⟨a',c',by rw[he,hv],by rw[<-hv];exact hs.in hl,fj hb⟩
 ·refine(slices_Clone_string bk o ss.length c ss w (ay _) ab (fun j hj=>h4 j _ (by simp[List.getD,hj]))).mono fun e w' ⟨v',he,ho,_,hb⟩=>?_;rw[aC (ay _)]at ho;have hs:Strs w.heap.size w' v' ss:=ho;obtain⟨a',c',hv⟩:=hs.form;exact⟨a',c',by rw[he,hv],by rw[<-hv];exact hs.in hl,fj hb⟩
def Vj(base:Nat)(m:aP bD)(w:World)(e:Ending)(w':World):Prop :=
 ∃r:aP Value,e=.returned (.agg r.cells.toArray)/\r.Reads (dr base w') m/\(∀u∈r.cells,u.oneCell'=true)/\Fr aR w w'
theorem GI{r:aP Value}{a b:Option Addr}{n m c d:Nat}(h1:r.a.dom=.slice a n c)(h2:r.paths=.slice b m d):∀u∈r.cells,u.oneCell'=true:=by
 intro u hu;simp only[aP.cells,bB,cq,dU]at hu;rcases hu with rfl|rfl|rfl|rfl|rfl|rfl|rfl|rfl|rfl|rfl|rfl|rfl|rfl|rfl|rfl|rfl<;>first|rfl|(rw[h1];rfl)|(rw[h2];rfl)
theorem uP(base:Nat)(g:aP Value)(m:aP bD)(w:World)(iD:base<=w.heap.size)(h:g.Reads (dr base w) m) :
  Calls prog 93 #[.agg g.cells.toArray] w (Vj base m w):=by
 have hpi:=h.2.2.2.2.2.2;have hdi:=h.2.2.2.2.1.2.2.2.2.2.2.2;have H:=O h;clear h;unfold aP.cells;obtain⟨ad,cd,hd⟩:=hdi.rd.form;obtain⟨ap,cp,hp⟩:=hpi.rd.form;rw[hp]at hpi;rw[hd]at hdi;rw[hd,hp];clear hd hp;go_enter func93,ntmps93;go_wp2_with fail
 have pg:Fr aR w _:=((ae aR w).alloc (.cells #[.bool g.o.aF,.string g.o.host,.int .i64 g.o.port,.bool g.proxy,.string g.user,.string g.pass,.int .i64 g.a.scheme,.string g.a.aK,.string g.a.bq,.string g.a.cj,.bool g.a.cy,.string g.a.eE,.bool g.a.cM,.slice ad m.a.dom.length cd,.int .i64 g.count,.slice ap m.paths.length cp] 114)).alloc (.cells eS 114)
 have b0:=Below.heap_alloc (w.alloc (.cells #[.bool g.o.aF,.string g.o.host,.int .i64 g.o.port,.bool g.proxy,.string g.user,.string g.pass,.int .i64 g.a.scheme,.string g.a.aK,.string g.a.bq,.string g.a.cj,.bool g.a.cy,.string g.a.eE,.bool g.a.cM,.slice ad m.a.dom.length cd,.int .i64 g.count,.slice ap m.paths.length cp] 114)) (.cells eS 114) w.heap.size aQ;rw[aB]at b0
 have b1:=aB (w.alloc (.cells #[.bool g.o.aF,.string g.o.host,.int .i64 g.o.port,.bool g.proxy,.string g.user,.string g.pass,.int .i64 g.a.scheme,.string g.a.aK,.string g.a.bq,.string g.a.cj,.bool g.a.cy,.string g.a.eE,.bool g.a.cM,.slice ad m.a.dom.length cd,.int .i64 g.count,.slice ap m.paths.length cp] 114)) (.cells eS 114)
 rw[show(w.alloc (.cells #[.bool g.o.aF,.string g.o.host,.int .i64 g.o.port,.bool g.proxy,.string g.user,.string g.pass,.int .i64 g.a.scheme,.string g.a.aK,.string g.a.bq,.string g.a.cj,.bool g.a.cy,.string g.a.eE,.bool g.a.cM,.slice ad m.a.dom.length cd,.int .i64 g.count,.slice ap m.paths.length cp] 114)).heap.size=w.heap.size+1 from aQ]at b1
 generalize (w.alloc (.cells _ 114)).alloc _=W at pg b0 b1;have hpi:=hpi.dh pg;have hdi:=hdi.dh pg;refine(rR base _ m.paths W hpi).mono ?_;rintro e u1⟨a1,c1,rfl,Cp,df⟩;have TI:=df.keep b0 (fun h=>h);have Vk:=df.keep b1 (fun h=>h);have aii:=hdi.dh df;have adU:=pg.trans df;have c13:u1.cell? ⟨w.heap.size,13,none⟩=some (.slice ad m.a.dom.length cd):=by simp[World.cell?,TI]
 have c15:u1.cell? ⟨w.heap.size,15,none⟩=some (.slice ap m.paths.length cp):=by simp[World.cell?,TI]
 have f15:u1.frozen? ⟨w.heap.size,15,none⟩=false:=by simp[World.frozen?,TI]
 clear pg b0 b1 df hpi hdi;have hlw:w.heap.size<=u1.heap.size:=adU.size;go_wp2_with fail
 have dy:=adU.gI (p:=⟨w.heap.size,15,none⟩) (ay _) (.slice a1 m.paths.length c1);have b0:=b_ TI 15 (.slice a1 m.paths.length c1);have b1:=(tH (w:=u1) (b:=w.heap.size) (g:=w.heap.size+1) ab 15 (.slice a1 m.paths.length c1)).trans Vk;have rS:sr base u1 (one w.heap.size):=by
  rintro k rfl hk;exact⟨iD,fun c f e=>by rw[TI]at e;cases e⟩
 have kJ:Fr (one w.heap.size) u1 (u1.setCell ⟨w.heap.size,15,none⟩ (.slice a1 m.paths.length c1)):=(ae (one w.heap.size) u1).setCell (p:=⟨w.heap.size,15,none⟩) (fun _=>rfl) _;have MX:=Cp.fr kJ rS;have sV:=aii.fr kJ rS;clear Cp aii rS kJ TI Vk adU c13 c15 f15;generalize u1.setCell ⟨w.heap.size,15,none⟩ (.slice a1 m.paths.length c1)=U at *
 refine(rR base _ m.a.dom U sV).mono ?_;rintro e u2⟨a2,c2,rfl,Ug,iv⟩
 have TI:u2.heap[w.heap.size]?=some (.cells #[.bool g.o.aF,.string g.o.host,.int .i64 g.o.port,.bool g.proxy,.string g.user,.string g.pass,.int .i64 g.a.scheme,.string g.a.aK,.string g.a.bq,.string g.a.cj,.bool g.a.cy,.string g.a.eE,.bool g.a.cM,.slice ad m.a.dom.length cd,.int .i64 g.count,.slice a1 m.paths.length c1] 114 (0,0)):=iv.keep b0 (fun h=>h);have Vk:=iv.keep b1 (fun h=>h)
 have hs4:=MX.dh iv;have HF:=dy.trans iv;have c13:u2.cell? ⟨w.heap.size,13,none⟩=some (.slice ad m.a.dom.length cd):=by simp[World.cell?,TI]
 have f13:u2.frozen? ⟨w.heap.size,13,none⟩=false:=by simp[World.frozen?,TI]
 have b2:(u2.setCell ⟨w.heap.size,13,none⟩ (.slice a2 m.a.dom.length c2)).heap[w.heap.size]?=some (.cells #[.bool g.o.aF,.string g.o.host,.int .i64 g.o.port,.bool g.proxy,.string g.user,.string g.pass,.int .i64 g.a.scheme,.string g.a.aK,.string g.a.bq,.string g.a.cj,.bool g.a.cy,.string g.a.eE,.bool g.a.cM,.slice a2 m.a.dom.length c2,.int .i64 g.count,.slice a1 m.paths.length c1] 114 (0,0)):=b_ TI 13 (.slice a2 m.a.dom.length c2)
 have b3:=(tH (w:=u2) (b:=w.heap.size) (g:=w.heap.size+1) ab 13 (.slice a2 m.a.dom.length c2)).trans Vk;have rS:sr base u2 (one w.heap.size):=by
  rintro k rfl hk;exact⟨iD,fun c f e=>by rw[TI]at e;cases e⟩
 have kJ:Fr (one w.heap.size) u2 (u2.setCell ⟨w.heap.size,13,none⟩ (.slice a2 m.a.dom.length c2)):=(ae (one w.heap.size) u2).setCell (p:=⟨w.heap.size,13,none⟩) (fun _=>rfl) _;have hs5:=hs4.fr kJ rS;have hd5:=Ug.fr kJ rS;have fO:=HF.gI (p:=⟨w.heap.size,13,none⟩) (ay _) (.slice a2 m.a.dom.length c2);have B2:=O b2;have B3:=O b3;clear b0 b1 TI Vk b2 b3 rS kJ hs4 MX sV Ug HF dy iv
 have mO:(#[.bool g.o.aF,.string g.o.host,.int .i64 g.o.port,.bool g.proxy,.string g.user,.string g.pass,.int .i64 g.a.scheme,.string g.a.aK,.string g.a.bq,.string g.a.cj,.bool g.a.cy,.string g.a.eE,.bool g.a.cM,.slice a2 m.a.dom.length c2,.int .i64 g.count,.slice a1 m.paths.length c1]:Array Value).all (·.oneCell')=true:=bW (GI (r:={g with a:={g.a with dom:=.slice a2 m.a.dom.length c2},paths:=.slice a1 m.paths.length c1}) rfl rfl)
 have M4:=O mO;clear mO;go_wp2_with (first|((with_reducible refine cY 13 ?_);refine aH rfl 114 (.tmp 1) rfl w.heap.size rfl _ _ (0,0) _ B2.o underlying114 rfl af ?_)|((with_reducible refine cV 114 ?_);refine aE rfl 114 (.tmp 2) (.tmp 13) rfl (w.heap.size+1) _ rfl rfl _ eS B3.o af rfl M4.o ?_)|fail)
 have rS:sr base (u2.setCell ⟨w.heap.size,13,none⟩ (.slice a2 m.a.dom.length c2)) (one (w.heap.size+1)):=by
  rintro k rfl hk;exact⟨ab,fun c f e=>by rw[B3.o]at e;cases e⟩
 generalize (u2.setCell ⟨w.heap.size,13,none⟩ (.slice a2 m.a.dom.length c2))=V at *
 have kJ:Fr (one (w.heap.size+1)) V (V.setRow (w.heap.size+1) #[.bool g.o.aF,.string g.o.host,.int .i64 g.o.port,.bool g.proxy,.string g.user,.string g.pass,.int .i64 g.a.scheme,.string g.a.aK,.string g.a.bq,.string g.a.cj,.bool g.a.cy,.string g.a.eE,.bool g.a.cM,.slice a2 m.a.dom.length c2,.int .i64 g.count,.slice a1 m.paths.length c1]):=(ae (one (w.heap.size+1)) V).setRow (fun _=>rfl) _
 refine aS (bu bC _ _ (w.heap.size+1) 114 #[.bool g.o.aF,.string g.o.host,.int .i64 g.o.port,.bool g.proxy,.string g.user,.string g.pass,.int .i64 g.a.scheme,.string g.a.aK,.string g.a.bq,.string g.a.cj,.bool g.a.cy,.string g.a.eE,.bool g.a.cM,.slice a2 m.a.dom.length c2,.int .i64 g.count,.slice a1 m.paths.length c1] (0,0) _ rfl (aX V (w.heap.size+1) _ _ _ _ B3.o) underlying114 rfl af) rfl ?_
 obtain⟨h1,h2,h3,h4,⟨k1,k2,k3,k4,k5,k6,k7,_⟩,h6,_⟩:=H.o;exact⟨{g with a:={g.a with dom:=.slice a2 m.a.dom.length c2},paths:=.slice a1 m.paths.length c1},rfl,⟨h1,h2,h3,h4,⟨k1,k2,k3,k4,k5,k6,k7,hd5.fr kJ rS⟩,h6,hs5.fr kJ rS⟩,GI rfl rfl,fO.setRow (fun h=>absurd h ab) _⟩
def ael(b:Nat)(w:World)(bk cap:Nat)(p:List Value->Bool)(xs:List (List Value))(i j:Value)(wr:World):Prop :=
 ∃(m n:Nat) (ys:List (List Value)),i=.int .i64 m/\j=.int .i64 n/\m<n/\n<=xs.length/\ys.length=xs.length/\OwnRows b 155 12 wr (.slice (some ⟨bk,0,none⟩) xs.length cap) ys /\
  ys.take m=(xs.take n).filter (fun x=>!p x)/\ys.drop n=xs.drop n/\Fr (one bk) w wr
theorem Ad{p:List Value->Bool}:∀ {l:List (List Value)} (i:Nat),l.any p=true->∃k x,l[k]?=some x/\p x=true/\(l.take k).any p=false/\lW p l i=((i+k:Nat):Int)
 |[],_,h=>by simp at h
 |a :: l,i,h=>by
  cases ha:p a
  ·rw[List.any_cons,ha,jN]at h;obtain⟨k,x,h1,h2,h3,h4⟩:=Ad (i+1) h;refine⟨k+1,x,by simpa using h1,h2,by simp[ha,h3],?_⟩;rw[lW,ha];simp only[cG,eU];rw[h4];congr 1;omega
  ·exact⟨0,a,rfl,ha,rfl,by rw[lW,ha];simp⟩
theorem Ae{p:List Value->Bool}{l:List (List Value)}(h:l.any p=false):l.filter (fun x=>!p x)=l:=by
 rw[List.filter_eq_self];intro a ha;have:=eW.1 h a ha;simpa using this
theorem p9(b:Nat)(g:Nat)(cap:Array Value)(p:List Value->Bool)(v:Value)(xs:List (List Value))(w:World)(eg:∀args w,(callFunc g args).run prog w=.ok (.enter g args) w)(hp:gO (own v) w g cap p xs)(hv:OwnRows b 155 12 w v xs) :
  Calls prog 135 #[v,.func (.func g) #[] cap] w fun e w'=>∃a c,e=.returned (.slice a (xs.filter (fun x=>!p x)).length c)/\OwnRows b 155 12 w' (.slice a (xs.filter (fun x=>!p x)).length c) (xs.filter (fun x=>!p x))/\Fr (own v) w w'/\own (.slice a (xs.filter (fun x=>!p x)).length c)=own v:=by
 cases jn:xs.any p
 ·have rT:=O (ku (i:=0) jn);rw[Ae jn];obtain⟨av,cv,fI⟩:=hv.form;subst fI;go_enter func135,ntmps135;go_wp2_with fail
  refine(uQ g cap p _ xs w eg hp.none hv.at).mono ?_;rintro e w1⟨rfl,df⟩;rw[rT.o];go_wp2;go_ret;exact⟨_,_,rfl,hv.fr df (fun _ _ h=>h),df.mono (fun _ _ h=>absurd h (fun h=>h)),rfl⟩
 ·obtain⟨k0,x0,IL,Ec,vO,rT⟩:=Ad 0 jn;rw[bw]at rT;have Nv:=(List.getElem?_eq_some_iff.1 IL).1;obtain⟨bk,cp,Lh⟩:∃bk cp,v=.slice (some ⟨bk,0,none⟩) xs.length cp:=by
   rcases hv.2.2 with ⟨_,hn⟩|⟨bk,cp,cur,hv,_⟩
   ·omega
   ·exact⟨bk,cp,hv⟩
  subst Lh;obtain⟨Cu,cur,sH,q1,q2,q3,q4,q5,q6⟩:=hv.open (g:=bk) rfl;cases sH;unfold maxLen at q4;have dY:=O hv.1;have Ed:=O (show xs.take k0=(xs.take (k0+1)).filter (fun x=>!p x)by
   rw[dW IL,cC,Ae vO];simp[Ec])
  have HP:=O hp;have ZL:=O rT;clear jn vO IL Ec rT q2 q5 q6 hp;go_enter func135,ntmps135;go_wp2_with fail
  refine(uQ g cap p _ xs w eg HP.o.none hv.at).mono ?_;rintro e w1⟨rfl,df⟩;rw[ZL.o];have Ft:=hv.fr df (fun _ _ h=>h);have JS:((k0:Int)== -1)=false:=by rw[aN];omega
  go_wp2;go_loopw[5,6] (ael b w bk cp p xs) (fun _ j _=>xs.length-(intOf j).toNat)
  case atStart=>exact⟨k0,k0+1,xs,rfl,a_,ab,ab,rfl,Ft,Ed.o,rfl,df.mono (fun _ _ h=>absurd h (fun h=>h))⟩
  case round =>
   obtain⟨m,n,ys,rfl,rfl,hmn,hn,hlen,cP,rI,td,cK⟩:=hrel;have HT:=O rI;have HD:=O td;have jW:=O hlen;clear rI td hlen;rw[<-jW.o]at cP;have rU:=cP.at;by_cases eX:n<xs.length
   ·rcases rU.2 with ⟨_,_,_,e,_⟩|⟨IM,of,c,hf,h1,h2,h3,h4⟩
    ·have hl:=jW.o;rw[e]at hl;simp at hl;omega
    ·cases hf;have dN:=O (List.getElem?_eq_getElem eX);have yF:ys[n]?=some xs[n]:=by
      have e:=ar (fun l:List (List Value)=>l[0]?) HD.o;simp only[List.getElem?_drop,Nat.add_zero]at e;rw[e,dN.o]
     have hcell:=h4 n _ yF;simp only[bw]at hcell;have g_:=O (bL eX);generalize xs[n]=x at dN hcell g_ yF;have lF:=(dY.o x g_.o).1;have mO:=O (dY.o x g_.o).2;have jq:=fun W=>run_storeCells_new (P:=prog) W 155 #[.bool false,.string ⟨#[]⟩,.int .i64 0,.bool false,.string ⟨#[]⟩,.int .i64 0,.string ⟨#[]⟩,.string ⟨#[]⟩,.bool false,.string ⟨#[]⟩,.string ⟨#[]⟩,.int .i64 0] x (by rw[lF];rfl) mO.o
     have gS:Fr aR wr (wr.alloc (.cells x.toArray 155)):=(ae aR wr).alloc _;have fA:=O (HP.o x g_.o (wr.alloc (.cells x.toArray 155)) ((cK.alloc _).mono (fun k _ h=>by have e:k=bk:=h;rw[e];rfl)));have IV:=O (Bo lF);have js:=cK.alloc (.cells x.toArray 155);have fy:=cP.fr gS (fun _ _ h=>h);have qp:(wr.alloc (.cells x.toArray 155)).heap[wr.heap.size]?=some (.cells x.toArray 155 (0,0)):=aB _ _
     have ud:=O qp;clear h4 yF qp gS;go_wp2_with (first|((with_reducible refine cY 25 ?_);refine aU rfl 155 (.tmp 24) rfl bk (n*12) rfl x _ hcell underlying155 rfl IV.o ?_)|((with_reducible refine cY 27 ?_);refine aH rfl 155 (.tmp 7) rfl wr.heap.size rfl _ x.toArray (0,0) _ ud.o underlying155 rfl (by rw[aW];exact IV.o) ?_)|fail)
     have hlw:wr.heap.size<(wr.alloc (.cells x.toArray 155)).heap.size:=aQ;clear jq hcell;generalize wr.alloc (.cells x.toArray 155)=W2 at *
     refine fA.o.mono ?_;rintro e w3⟨rfl,iv⟩;have qG:=js.trans (iv.mono (fun _ _ h=>absurd h (fun h=>h)));have fo:=fy.fr iv (fun _ _ h=>h);have tK:=O (iv.keep ud.o (fun h=>h));have N0:=O jW.o;cases qI:p x
     ·have Yg:=O (fo.there (g:=bk) (cap:=cp) (by rw[jW.o]) (o:=m*12) (n:=x.toArray.size) (by
       have hmc:(m+1)*12<=cp*12:=bO _ ab;rw[aW,lF];omega))
      have eY:=fo.store (i:=m) (y:=x) (by rw[jW.o];omega) lF mO.o (g:=bk) rfl;rw[jW.o]at eY;have oA:=qG.step (fF (ae (one bk) w3) (fun _=>rfl) x (m*12)) (fun _ _ h=>h)
      go_wp2_with (first|((with_reducible refine cY 32 ?_);refine aH rfl 155 (.tmp 7) rfl wr.heap.size rfl _ x.toArray (0,0) _ tK.o underlying155 rfl (by rw[aW];exact IV.o) ?_)|((with_reducible refine cV 155 ?_);refine iq rfl 155 (.tmp 33) (.tmp 32) rfl bk (m*12) x.toArray rfl rfl Yg.o (by rw[aW];exact IV.o) (bW mO.o) ?_)|fail)
      go_roundw
      case rel =>
       refine⟨m+1,n+1,ys.set m x,a_,a_,ab,ab,by rw[d_];exact N0.o,eY,?_,?_,oA⟩
       ·rw[dW (l:=ys.set m x) (List.getElem?_set_self (by rw[N0.o];omega)),gj (ay m),dW dN.o,cC,HT.o];simp[qI]
       ·rw[gl ab];have e:=ar (List.drop 1) HD.o;simpa[ey]using e
      case measure=>simp[intOf];omega
     ·rw[jW.o]at fo;go_wp2_with fail
      go_roundw
      case rel =>
       refine⟨m,n+1,ys,rfl,a_,ab,ab,N0.o,fo,?_,?_,qG⟩
       ·rw[dW dN.o,cC,HT.o];simp[qI]
       ·have e:=ar (List.drop 1) HD.o;simpa[ey]using e
      case measure=>simp[intOf];omega
   ·have rW:n=xs.length:=ab;subst rW;have fc:=O (show ys.take m=xs.filter (fun x=>!p x)by have h:=HT.o;rw[aC (ay _)]at h;exact h);have sZ:(ys.take m).length=m:=by rw[aJ,jW.o];omega
    have zU:=O (show(xs.filter (fun x=>!p x)).length=m by rw[<-fc.o];exact sZ);have hcut:=cP.cut (i:=m) (by rw[jW.o];omega) (g:=bk) (cap:=cp) (by rw[jW.o]);have hle:(xs.length-m)*12+m*12<=cp*12:=by rw[<-dC];exact bO _ ab
    have CA:(Builtin.zeroCells FJ (xs.length-m)).toList.length=(xs.length-m)*12:=by simp[Builtin.zeroCells]
    have vt:=fun ty=>jF (P:=prog) wr 90 155 ty FJ underlying90 (fun w=>af) ag Qq bk (m*12) (xs.length-m) (cp-m) ab (by
     have:=cP.there (g:=bk) (cap:=cp) (by rw[jW.o]) (o:=m*12) (n:=(xs.length-m)*12) ab;exact this)
    have yG:=hcut.behind (o:=m*12) (vs:=(Builtin.zeroCells FJ (xs.length-m)).toList) (by rw[sZ];exact ay _) (g:=bk) (cap:=cp) (by rw[sZ]) (by rw[CA];omega);have oA:=cK.step (fF (ae (one bk) wr) (fun _=>rfl) (Builtin.zeroCells FJ (xs.length-m)).toList (m*12)) (fun _ _ h=>h);clear cP rU hcut CA sZ hle jW;go_wp2_with fail
    go_ret;rw[zU.o, <-fc.o];exact⟨_,_,rfl,yG,oA.mono (fun k _ h=>by have e:k=bk:=h;rw[e];rfl),rfl⟩
theorem aem:∃i0:TypeInfo,prog.info? 155=some i0/\i0.size=12:=by
 have h:(prog.info? 155).map (·.size)=some 12:=af;cases hq:prog.info? 155 with
 |none=>rw[hq]at h;cases h
 |some i=>rw[hq]at h;exact⟨i,rfl,by simpa using h⟩
theorem RR(b:Nat)(bk cp i j:Nat)(xs:List (List Value))(w:World)(hv:OwnRows b 155 12 w (.slice (some ⟨bk,0,none⟩) xs.length cp) xs)(Q8:i<j)(hj:j<=xs.length) :
  Calls prog 140 #[.slice (some ⟨bk,0,none⟩) xs.length cp,.int .i64 i,.int .i64 j] w fun e w'=>e=.returned (.slice (some ⟨bk,0,none⟩) (i+(xs.length-j)) cp)/\OwnRows b 155 12 w' (.slice (some ⟨bk,0,none⟩) (i+(xs.length-j)) cp) (xs.take i++xs.drop j)/\Fr (one bk) w w':=by
 obtain⟨i0,qD,kZ⟩:=aem;obtain⟨Cu,cur,sH,q1,q2,q3,q4,q5,q6⟩:=hv.open (g:=bk) rfl;cases sH;unfold maxLen at q4;have dN:=hv.at;have dY:=hv.1;obtain⟨news,kL⟩:∃news,news=(xs.drop j).flatten:=⟨_,rfl⟩;have hdr:∀x∈xs.drop j,x.length=12/\∀u∈x,u.oneCell'=true:=fun x hx=>dY x (ez hx);have hlen:news.length=(xs.length-j)*12:=by rw[kL,gC (fun x hx=>(hdr x hx).1),bJ]
 obtain⟨A,hA,N1⟩:∃A:Addr,(if cp=j then some (⟨bk,0,none⟩:Addr)else some ⟨bk,j*12,none⟩)=some A/\Hid (∀t u,news[t]?=some u->w.drew.cell? (A.add t)=some u):=by
  by_cases h:cp=j
  ·refine⟨⟨bk,0,none⟩,by simp[h],fun t u hu=>?_⟩
   have h0:news.length=0:=by rw[hlen];have:xs.length-j=0:=by omega
                             rw[this,ik]
   rw[dF.1 h0]at hu;simp at hu
  ·refine⟨⟨bk,j*12,none⟩,by simp[h],fun t u hu=>?_⟩;have ht:t<(xs.length-j)*12:=by
    have:=(List.getElem?_eq_some_iff.1 hu).1;omega
   have nv:xs.flatten[j*12+t]?=some u:=by
    have e:xs.flatten=(xs.take j).flatten++(xs.drop j).flatten:=by rw[<-ed,fM]
    have hl:(xs.take j).flatten.length=j*12:=by rw[gC (fun x hx=>(dY x (dX hx)).1),aJ,dK hj]
    rw[e,List.getElem?_append_right ab,hl,show j*12+t-j*12=t from ab, <-kL];exact hu
   have hjt:j*12+t<xs.length*12:=by
    have:(xs.length-j)*12+j*12=xs.length*12:=by rw[<-dC];congr 1;omega
    omega
   rw[<-q6,List.getElem?_take_of_lt hjt]at nv;have zV:cur[j*12+t]?=some u:=by simpa using nv
   have ea:(Addr.add ⟨bk,j*12,none⟩ t)=⟨bk,j*12+t,none⟩:=by unfold Addr.add;split<;>simp_all
   rw[ea];show w.cell? _=some u;simp[World.cell?,q2,zV]
 have s1:=O hlen;have s2:=O (show∀u∈news,u.oneCell'=true by
  intro u hu;rw[kL]at hu;obtain⟨x,hx,GL⟩:=fL.1 hu;exact(hdr x hx).2 u GL)
 have s3:=O (show∀t,t<news.length->(w.drew.cell? ⟨bk,0+i*12+t,none⟩).isSome=true/\w.drew.frozen? ⟨bk,0+i*12+t,none⟩=false by
  intro t ht;rw[bw];have hle:i*12+(xs.length-j)*12<=cp*12:=by rw[<-dC];exact bO _ ab
  have:=hv.there (g:=bk) (cap:=cp) rfl (o:=i*12) (n:=(xs.length-j)*12) hle t ab;exact this)
 have Vn:OwnRows b 155 12 w.drew (.slice (some ⟨bk,0,none⟩) xs.length cp) xs:=hv;have qz:=Vn.Dw (i:=i) (ys:=xs.drop j) ab hdr (g:=bk) (cap:=cp) rfl (by rw[bJ];omega);rw[bJ, <-kL]at qz;have yH:Fr (one bk) w (w.drew.setCells bk (i*12) news):=((ae (one bk) w).drew).setCells (fun _=>rfl) _ _;obtain⟨W1,Cy⟩:∃W1,W1=w.drew.setCells bk (0+i*12) news:=⟨_,rfl⟩;have HW:=O Cy;rw[bw]at Cy;rw[<-Cy]at qz yH
 have rW:(xs.take i++xs.drop j).length=i+(xs.length-j):=by rw[aM,aJ,bJ];omega
 have hm:i+(xs.length-j)<xs.length:=ab;have CA:(Builtin.zeroCells FJ (xs.length-(i+(xs.length-j)))).toList.length=(xs.length-(i+(xs.length-j)))*12:=by simp[Builtin.zeroCells]
 have hle:(i+(xs.length-j))*12+(xs.length-(i+(xs.length-j)))*12<=cp*12:=by rw[<-dC];exact bO _ ab
 have vt:=fun ty=>jF (P:=prog) W1 90 155 ty FJ underlying90 (fun w=>af) ag Qq bk ((i+(xs.length-j))*12) (xs.length-(i+(xs.length-j))) (cp-(i+(xs.length-j))) ab (by
  have:=qz.there (g:=bk) (cap:=cp) (by rw[rW]) (o:=(i+(xs.length-j))*12) (n:=(xs.length-(i+(xs.length-j)))*12) hle;exact this)
 have yG:=qz.behind (o:=(i+(xs.length-j))*12) (vs:=(Builtin.zeroCells FJ (xs.length-(i+(xs.length-j)))).toList) (by rw[rW];exact ay _) (g:=bk) (cap:=cp) (by rw[rW]) (by rw[CA];omega);have oA:=yH.step (fF (ae (one bk) W1) (fun _=>rfl) (Builtin.zeroCells FJ (xs.length-(i+(xs.length-j)))).toList ((i+(xs.length-j))*12)) (fun _ _ h=>h);have hne:((i:Int)==(j:Int))=false:=by rw[aN];omega
 have adZ:i<=cp:=ab;have ad0:j<=cp:=ab;have HA:=O hA;clear Cy qz Vn yH kL hlen hdr dY dN rW CA hle q2 q5 q6 hv;go_enter func140,ntmps140;go_wp2_with fail
 have hA:=HA.o;go_region_law (refine step_append_room rfl (.tmp 22) (.tmp 25) 90 rfl 155 i0 12 underlying90 qD kZ bk 0 i cp (by simp[Act.eval,Act.put]) A (xs.length-j) (cp-j) news (by simp[Act.eval,Act.put]) s1.o N1.out s2.o ab s3.o ?_;rw[<-HW.o])
 all_goals
  go_wp2_with fail
  go_ret;exact⟨rfl,yG,oA⟩
theorem Z1:(prog.info? 155).map (fun i=>(i.zero,i.size,i.bytes))=some (some (.agg #[.bool false,.string ⟨#[]⟩,.int .i64 0,.bool false,.string ⟨#[]⟩,.int .i64 0,.string ⟨#[]⟩,.string ⟨#[]⟩,.bool false,.string ⟨#[]⟩,.string ⟨#[]⟩,.int .i64 0]),12,144):=af
theorem Z2(v:Value)(xs:List (List Value))(w:World)(h:dV 12 w v xs)(hl:xs.length<=1000000000) :
  Calls prog 200 #[v] w fun e w'=>∃v',e=.returned v'/\OwnRows w.heap.size 155 12 w' v' xs/\Fr aR w w':=by
 obtain⟨a,c,hv⟩:=h.form;subst hv;have q22:∀(w:World) (a:Option Addr) (n c n' c':Nat),(binOp .eql 90 (.slice a n c) (.slice none n' c')).run prog w=.ok (.bool a.isNone) w:=fun w a n c n' c'=>Lib.run_eql_slice_nil w _ _ a n c n' c' underlying90;cases a with
 |none =>
  obtain⟨rfl,rfl⟩:xs=[]/\c=0:=by
   rcases h.2 with ⟨a',c',hv,hs,hc⟩|⟨bk,o',c',hf,_⟩
   ·injection hv with e1 e2 e3
    exact⟨hs,e3.trans (hc e1.symm)⟩
   ·injection hf with e1;cases e1
  go_enter func200,ntmps200;go_wp2;go_ret;exact⟨_,rfl,dv _ _ _ _,ae _ _⟩
 |some ad =>
  have HX:=h.1;have HC:=O (show∀j u,xs.flatten[j]?=some u->w.cell? (ad.add j)=some u from fun j u hj=>by
   rcases h.2 with ⟨_,_,_,e,_⟩|⟨bk,o',c',hf,g1,g2,g3,g4⟩
   ·subst e;simp at hj
   ·cases hf;have zU:xs.flatten.length=xs.length*12:=gC (fun x hx=>(HX x hx).1);have Y9:=(List.getElem?_eq_some_iff.1 hj).1;have hd:j/12<xs.length:=ab;have hm:j%12<12:=ab;have hx:(xs[j/12]).length=12:=(HX _ (bL hd)).1;have e1:=rH (k:=12) (xs:=xs) (fun x hx=>(HX x hx).1) (j:=j/12) (List.getElem?_eq_getElem hd) (i:=j%12) (List.getElem?_eq_getElem (by rw[hx];exact hm));rw[Nat.div_add_mod']at e1
    rw[e1]at hj;cases hj;have:=g4 (j/12) _ (List.getElem?_eq_getElem hd) (j%12) _ (List.getElem?_eq_getElem (by rw[hx];exact hm));have ea:(Addr.add ⟨bk,o',none⟩ j)=⟨bk,o'+j,none⟩:=by unfold Addr.add;split<;>simp_all
    rw[ea, <-this]
    congr 2
    omega)
  have HF:=O (show xs.flatten.length=xs.length*12 from gC (fun x hx=>(HX x hx).1));have VK:=O HX;obtain⟨i0,hi,pq,kZ,lq⟩:=info_parts Z1;clear HX h;go_enter func200,ntmps200
  go_wp2_with (at_builtin;refine wpList_append_own _ rfl _ _ 90 rfl w.heap.size 155 i0 (.agg #[.bool false,.string ⟨#[]⟩,.int .i64 0,.bool false,.string ⟨#[]⟩,.int .i64 0,.string ⟨#[]⟩,.string ⟨#[]⟩,.bool false,.string ⟨#[]⟩,.string ⟨#[]⟩,.int .i64 0]) 12 144 underlying90 hi pq kZ lq rfl ag _ _ _ rfl (World.ownsRow_made w #[] 0 (ay _) (aI _) rfl) ad xs.length c xs.flatten rfl HF.o ?qc2 ?qc3 ?qc4 ?qc5 ?qc6 ?_)
  case qc2 =>
   intro j u hj;exact Lib.cell?_alloc_some _ (HC.o j u hj)
  case qc3 =>
   intro u hu;obtain⟨x,hx,GL⟩:=fL.1 hu;exact(VK.o x hx).2 u GL
  case qc4=>unfold maxLen;omega
  case qc5=>omega
  case qc6=>simp
  intro v' w1 cP jC Ku;go_wp2;go_ret;refine⟨v',rfl,⟨VK.o,by simpa using cP⟩,fj (((Below.refl _ w).alloc (ay _) _).grown jC aQ (by intro k hk;simp[Value.ownBlock]at hk;omega))⟩
