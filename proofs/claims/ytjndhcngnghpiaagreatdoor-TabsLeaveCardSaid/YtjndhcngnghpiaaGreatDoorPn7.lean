/- Lemmas for the law's walk. -/
import Derived.Test.YtjndhcngnghpiaaGreatDoorPn5
import Derived.Test.YtjndhcngnghpiaaGreatDoorPn6
set_option maxRecDepth 100000
set_option maxHeartbeats 16000000
set_option linter.unusedSimpArgs false
namespace Go.Proofs.YtjndhcngnghpiaaGreatDoor
open Go.Proofs.Tryz
open Go.RowKit Go.Shelf
variable {x:aj} {w wc A B W:World} {k base:Nat} {pre ss:List aj} {v u:Value} {r z:Bs} {ps:List jn} {p:jn}
attribute [local go_sem] Oper.semAt_some
theorem Hs(s sep:aj)(w:World) :
  aB 154 #[.string s,.string sep] w fun e w' =>
   e=.returned (.func (.func 233) #[] #[.pointer (some ⟨w.heap.size+1,0,none⟩),.pointer (some ⟨w.heap.size,0,none⟩),.pointer (some ⟨w.heap.size+2,0,none⟩)]) /\
   w'=((w.alloc (.cells #[.string s] 9)).alloc (.cells #[.string sep] 9)).alloc (.cells #[.int .i64 0] 3):=by
 have Xm:aB 202 #[.string s,.string sep,.int .i64 0] w fun e w' =>
   e=.returned (.func (.func 233) #[] #[.pointer (some ⟨w.heap.size+1,0,none⟩),.pointer (some ⟨w.heap.size,0,none⟩),.pointer (some ⟨w.heap.size+2,0,none⟩)]) /\
   w'=((w.alloc (.cells #[.string s] 9)).alloc (.cells #[.string sep] 9)).alloc (.cells #[.int .i64 0] 3):=by
  go_enter func202,ntmps202;go_wp2;go_ret;exact⟨rfl,rfl⟩
 go_enter func154,ntmps154;go_wp2_with fail
 refine Xm.mono ?_;rintro e w1⟨rfl,rfl⟩;go_wp2;go_ret;exact⟨rfl,rfl⟩
theorem UE(f:aH->Nat):∀(L:List (aH)) (l:aH),l∈L->f l<=(L.map f).sum
 |a :: L,l,h=>by
  simp only[cD,List.sum_cons];rcases bB.1 h with rfl|h
  ·omega
  ·have:=UE f L l h;omega
theorem Ng{c:UInt8}{s:aj}(h:x∈iQ c s):x.size<=s.size:=by
 unfold iQ at h;obtain⟨l,hl,rfl⟩:=bZ.1 h;have h1:=AH c s.data.toList;have h2:l.length+1<=((dY c s.data.toList).map fun p=>p.length+1).sum:=UE (fun p=>p.length+1) _ l hl;have h3:s.data.toList.length=s.size:=aR;show l.toArray.size<=_;simp only[aZ];omega
def qT:aj:=⟨#[97,98,99,100,101,102,103,104,105,106,107,108,109,110,111,112,113,114,115,116,117,118,119,120,121,122,48,49,50,51,52,53,54,55,56,57,45]⟩
theorem ER:∀b∈qT.data.toList,b.toNat<128:=dt
theorem Kw:∀n:Fin 256,qT.data.toList.contains n.val.toUInt8=JS n.val.toUInt8:=dt
theorem BB(l:aH):l.all (qT.data.toList.contains ·)=l.all JS:=by
 congr 1;funext c
 have h:=Kw ⟨c.toNat,c.toNat_lt⟩;simpa using h
def uo(s:aj):Bool:=O_ s.data.toList
def vN(w wc W:World):Prop:=W.heap[w.heap.size]?=some (.cells #[.bool false] 4 (0,0))/\Fr aS w W/\wc.heap.size<=W.heap.size
def Ky(w wc:World)(pre:List aj)(W:World):Prop:=(∀p∈pre,CM p.data.toList=true)/\vN w wc W
def UF(w wc:World)(pre:List aj)(W:World):Prop:=(∃p∈pre,CM p.data.toList=false)/\vN w wc W
theorem vN.fr(hz:wc.heap.size=w.heap.size+4)(h:vN w wc A)(hf:Fr (Dq (w.heap.size+1) wc.heap.size) A B):vN w wc B :=
 ⟨hf.keep h.1 (by unfold Dq;omega),h.2.1.step hf (fun j hj hk=>by unfold Dq at hk;omega),aF h.2.2 hf.size⟩
theorem vN.grow(h:vN w wc A)(hf:Fr aS A B):vN w wc B:=⟨hf.keep h.1 id,h.2.1.trans hf,aF h.2.2 hf.size⟩
theorem vN.put(h:vN w wc A):vN w wc (A.setCell ⟨w.heap.size,0,none⟩ (.bool false)) :=
 ⟨by simp[World.setCell,Array.getElem?_modify,h.1],h.2.1.gF (p:=⟨w.heap.size,0,none⟩) (ay _) _,by simpa[World.setCell]using h.2.2⟩
theorem Fr.others(h:Fr aS A B):KeepsOthers A B:=⟨h.size,fun _ _ hk _=>h.keep hk id⟩
theorem Fr.ade(h:Fr aS A B)(hk:k+3<=A.heap.size):vM k A B:=fun j _ h2=>h.block j ab id
theorem UG(h:Ky w wc pre W)(hx:CM x.data.toList=false)(A:World)(hA:Fr aS W A)(aa:Act) :
  Na (w.heap.size+1) (Ky w wc) (UF w wc) (pre++[x]) W .ret aa (A.setCell ⟨w.heap.size,0,none⟩ (.bool false)) :=
 ⟨hA.others.trans (KeepsOthers.setCell A _ _),⟨x,aR,hx⟩,(h.2.grow hA).put⟩
theorem Q7(hz:wc.heap.size=w.heap.size+4)(h:Ky w wc pre W)(hx:CM x.data.toList=true)(A:World)(hA:Fr aS W A)(aa:Act) :
  Na (w.heap.size+1) (Ky w wc) (UF w wc) (pre++[x]) W .normal aa A :=
 ⟨hA.others,hA.ade (by have:=h.2.2.2;omega),fun p hp=>by
  rcases bQ.1 hp with hp|hp
  ·exact h.1 p hp
  ·rw[cZ]at hp;subst hp;exact hx,h.2.grow hA⟩
theorem UH(s:aj)(w:World)(hs:s.size<100000) :
  aB 97 #[.string s] w fun e w'=>e=.returned (.bool (uo s))/\Fr aS w w':=by
 by_cases h60:60<s.size
 ·have i60:(60:Int)<(s.size:Int):=ab;have HT:=O (show uo s=false by unfold uo O_;rw[bD (by simpa using h60)];rfl);go_enter func97,ntmps97;go_wp2;refine aU (v:=.bool false) ?_ rfl ⟨by rw[HT.o],?_⟩
  ·simp[results,Tryz.f97,go_sem]
  ·first|exact(ae aS w).alloc _|exact((ae aS w).alloc _).gF (p:=⟨w.heap.size,0,none⟩) (ay _) _
 ·have i60:¬(60:Int)<(s.size:Int):=ab;obtain⟨wb,jQ⟩:∃wb,wb=w.alloc (.cells #[.bool false] 4):=⟨_,rfl⟩;have hzb:wb.heap.size=w.heap.size+1:=by rw[jQ];simp
  have kf:Fr aS w wb:=by rw[jQ];exact(ae aS w).alloc _
  have Nh:wb.heap[w.heap.size]?=some (.cells #[.bool false] 4 (0,0)):=by rw[jQ];exact aC _ _
  obtain⟨wc,hwc⟩:∃wc,wc=((wb.alloc (.cells #[.string s] 9)).alloc (.cells #[.string ⟨#[46]⟩] 9)).alloc (.cells #[.int .i64 0] 3):=⟨_,rfl⟩;have hfc:Fr aS wb wc:=by rw[hwc];exact(((ae aS wb).alloc _).alloc _).alloc _
  have hzc:wc.heap.size=w.heap.size+4:=by rw[hwc];simp[hzb]
  have hc0:wc.heap[w.heap.size+1]?=some (.cells #[.string s] 9 (0,0)):=by
   rw[hwc, <-hzb];exact(((ae aS _).alloc _).alloc _).keep (aC wb _) id
  have pk:wc.heap[w.heap.size+1+1]?=some (.cells #[.string ⟨#[46]⟩] 9 (0,0)):=by
   rw[hwc, <-hzb];have:=((ae aS _).alloc (.cells #[.int .i64 0] 3)).keep (aC (wb.alloc (.cells #[.string s] 9)) (.cells #[.string ⟨#[46]⟩] 9)) id;simpa using this
  have se:wc.heap[w.heap.size+1+2]?=some (.cells #[.int .i64 0] 3 (0,0)):=by
   rw[hwc, <-hzb];have:=aC ((wb.alloc (.cells #[.string s] 9)).alloc (.cells #[.string ⟨#[46]⟩] 9)) (.cells #[.int .i64 0] 3);simpa using this
  have HSS:=O ((Hs s ⟨#[46]⟩ wb).mono (R':=fun e w'=>e=.returned (.func (.func 233) #[] #[.pointer (some ⟨w.heap.size+1+1,0,none⟩),.pointer (some ⟨w.heap.size+1,0,none⟩),.pointer (some ⟨w.heap.size+1+2,0,none⟩)])/\wc=w') (fun e w' h=>by rw[hzb, <-hwc]at h;exact⟨h.1,h.2.symm⟩));have qL:=O jQ;clear jQ hwc;refine(callsIn_wide (n:=5)).1 ?_;refine callsIn_of_wp_marks func97 rfl trivial ?_ rfl
  simp only[ntmps97,aZ,List.length_cons,List.length_nil,Nat.reduceAdd,Nat.reduceSub,Array.replicate_succ,Array.replicate_zero,List.push_toArray,List.append_toArray,List.nil_append,List.cons_append]
  gi_wp2_with fail
  rw[<-qL.o];refine⟨trivial,?_⟩;refine(callsIn_wide.2 HSS.o).mono ?_;rintro e u⟨rfl,rfl⟩;gi_wp2;have hkc:=hfc.keep Nh id;have ahs:=kf.trans hfc;have adg:=O (show uo s=(iQ 46 s).all (fun p=>CM p.data.toList)by
   unfold uo O_ iQ;rw[bL (by simpa using Nat.le_of_not_lt h60),Bool.true_and,List.all_map];rfl)
  refine AG rfl ag (gf:=233) (lb:= #[.pointer (some ⟨w.heap.size+1+1,0,none⟩),.pointer (some ⟨w.heap.size+1,0,none⟩),.pointer (some ⟨w.heap.size+1+2,0,none⟩)]) rfl trivial (enters_of func233 af rfl)
   (enc:=fun x:aj=>Value.string x) (k:=w.heap.size+1) (ys:=iQ 46 s) ab (B6 s (w.heap.size+1) 4 wc ag hs hc0 pk se) rfl
   (Ky w wc) (UF w wc) (fun xs A B h f=>⟨h.1,h.2.fr hzc f⟩) (fun xs A B h f=>⟨h.1,h.2.fr hzc f⟩) ⟨(fun p hp=>by cases hp),hkc,ahs,ay _⟩
   (fun x=>{tmps:= #[.string s,undef,.pointer (some ⟨w.heap.size,0,none⟩),.string x,.string s,.int .i64 s.size,.bool false,.string s,.func (.func 233) #[] #[.pointer (some ⟨w.heap.size+1+1,0,none⟩),.pointer (some ⟨w.heap.size+1,0,none⟩),.pointer (some ⟨w.heap.size+1+2,0,none⟩)],.string x,undef,undef,undef,undef,undef,undef,undef,undef,undef,undef,undef,undef,undef,undef,undef,undef,undef,undef,undef,undef],defers:=[]}) ?assign ?body ?done ?stop
  case assign =>
   intro l x W K hK;gi_wp2;exact hK
  case body =>
   intro l pre x W hi hxp;have hxz:x.size<=s.size:=Ng (hxp.subset aR);clear hxp;have FR:=O (fun hx=>Q7 (x:=x) hzc hi hx);have BX:=O (fun hx=>UG (x:=x) hi hx);obtain⟨_,hr,_,_⟩:=hi;have HR:=O hr;have c0:W.cell? ⟨w.heap.size,0,none⟩=some (.bool false):=by simp[World.cell?,hr]
   have c1:W.frozen? ⟨w.heap.size,0,none⟩=false:=by simp[World.frozen?,hr]
   clear hr Nh hkc hc0 pk se kf hfc ahs hzb HSS qL adg;by_cases Ht:x.size=0
   ·have hl:CM x.data.toList=false:=by
     have:x.data.toList=[]:=by apply cg;simpa using Ht
     rw[this];rfl
    have hem:x.toList=[]:=by rw[aO];apply cg;simpa using Ht
    have auk:x.toList.isEmpty=true:=by rw[hem];rfl
    have HB:=O (BX.o hl);clear hl BX FR;gi_wp2;refine⟨trivial,?_⟩;gi_wp2;exact HB.o W (ae _ _) _
   ·obtain⟨m,hm⟩:∃m,x.size=m+1:=⟨x.size-1,ab⟩;have hne:¬x.toList=[]:=by rw[aO];intro h;apply Ht;have:=aq List.length h;simpa using this
    have UI:x.toList.isEmpty=false:=by simpa using hne
    have HEM:=O (show x.data.toList.isEmpty=false by rw[<-aO];exact UI);have HH0:=O (show x.data.toList.head?=some (x[0]'ab)by rw[List.head?_eq_getElem?];exact byte_at x 0 ab);have HHL:=O (show x.data.toList.getLast?=some (x[m]'ab)by
     rw[List.getLast?_eq_getElem?]
     have:x.data.toList.length-1=m:=by have:x.data.toList.length=x.size:=by simp
                                       omega
     rw[this];exact byte_at x m ab)
    have hm1:((x.size:Nat):Int)-1=(m:Int):=ab;have Je:(m:Int)<(x.size:Int):=ab;have hm3:(0:Int)<=(m:Int):=ab;have hm4:m<x.size:=ab;have hm5:0<x.size:=ab;have hm6:(0:Int)<(x.size:Int):=ab;have UJ:∀c:UInt8,c=45↔(c.toNat:Int)=45:=fun c=>by
     constructor
     ·rintro rfl;rfl
     ·intro h;exact UInt8.toNat.inj (by have:(45:UInt8).toNat=45:=rfl;omega)
    by_cases Y1:x[0]'ab=45
    ·have i0:(((x[0]'ab).toNat:Int)==45)=true:=dT.2 ((UJ _).1 Y1);have i0':((x[0]'ab).toNat:Int)=45:=(UJ _).1 Y1;have HB:=O (BX.o (by unfold CM;rw[HH0.o,Y1];simp));clear BX FR HEM HH0 HHL UJ Y1;gi_wp2;refine⟨trivial,?_⟩;gi_wp2;exact HB.o W (ae _ _) _
    ·have i0:(((x[0]'ab).toNat:Int)==45)=false:=aL.2 (fun h=>Y1 ((UJ _).2 h));have i0':¬((x[0]'ab).toNat:Int)=45:=fun h=>Y1 ((UJ _).2 h);by_cases g45:x[m]'ab=45
     ·have i1:(((x[m]'ab).toNat:Int)==45)=true:=dT.2 ((UJ _).1 g45);have i1':((x[m]'ab).toNat:Int)=45:=(UJ _).1 g45;have HB:=O (BX.o (by unfold CM;rw[HHL.o,g45];simp));clear BX FR HEM HH0 HHL UJ g45 Y1;gi_wp2;refine⟨trivial,?_⟩;gi_wp2;exact HB.o W (ae _ _) _
     ·have i1:(((x[m]'ab).toNat:Int)==45)=false:=aL.2 (fun h=>g45 ((UJ _).2 h));have i1':¬((x[m]'ab).toNat:Int)=45:=fun h=>g45 ((UJ _).2 h);have wW:=O (show CM x.data.toList=x.data.toList.all JS by
       unfold CM;rw[HEM.o,HH0.o,HHL.o,show(some (x[0]'ab)==some 45)=false by simpa using Y1,show(some (x[m]'ab)==some 45)=false by simpa using g45];rfl)
      have HTR:=O (sj x qT W ab ag ag ER);clear HEM HH0 HHL UJ g45 Y1
      gi_wp2_with fail
      refine⟨trivial,?_⟩;refine(CallsIn.inRound l (callsIn_wide.2 HTR.o)).mono ?_;rintro e u⟨rfl,xZ⟩;cases iL:x.data.toList.all JS
      ·have O':Lib.trimS x.data.toList qT.data.toList≠ []:=fun h=>by rw[wE,BB,iL]at h;cases h
       have t1:¬(⟨(Lib.trimS x.data.toList qT.data.toList).toArray⟩:aj).toList=[]:=by rw[aO];simpa using O'
       have t2:(⟨(Lib.trimS x.data.toList qT.data.toList).toArray⟩:aj).toList.isEmpty=false:=by simpa using t1
       have HB:=O (BX.o (wW.o.trans iL));have QD:=xZ.keep HR.o id;have d0:u.cell? ⟨w.heap.size,0,none⟩=some (.bool false):=by simp[World.cell?,QD]
       have d1:u.frozen? ⟨w.heap.size,0,none⟩=false:=by simp[World.frozen?,QD]
       clear O' iL BX FR wW HTR c0 c1;generalize (⟨(Lib.trimS x.data.toList qT.data.toList).toArray⟩:aj)=z at *
       gi_wp2;exact HB.o u xZ _
      ·have O':Lib.trimS x.data.toList qT.data.toList=[]:=by rw[wE,BB,iL]
       rw[O'];have HG:=O (FR.o (wW.o.trans iL));clear O' iL BX FR wW HTR;gi_wp2;exact HG.o u xZ _
  case done =>
   rintro D W rfl⟨iL,hw⟩hd;have c0:W.cell? ⟨w.heap.size,0,none⟩=some (.bool false):=by simp[World.cell?,hw.1]
   have c1:W.frozen? ⟨w.heap.size,0,none⟩=false:=by simp[World.frozen?,hw.1]
   have HT:=O (show uo s=true by rw[adg.o,gu];exact iL);have HF:=O hw.2.1;clear hw;gi_wp2;have sF:=(KeepsOthers.setCell W ⟨w.heap.size,0,none⟩ (.bool true)).same _ _ hd rfl;refine⟨aR,.inl ⟨_,_,rfl,run_takeDeferred sF,?_⟩⟩
   have tX:=cell_kept (World.cell?_setCell_same' W ⟨w.heap.size,0,none⟩ (.bool true) (by rw[c0];rfl)) (grownBy_putObj' _ wc.heap.size (.deferred none)) (fun r e=>by cases e;exact⟨_,sF,rfl⟩);refine⟨.bool true,?_,by rw[HT.o],(HF.o.gF (p:=⟨w.heap.size,0,none⟩) (ay _) _).putObj (fun hl=>ab) _⟩;simp[results,Tryz.f97,go_sem,tX]
  case stop =>
   rintro D xs W rfl hxs⟨⟨p,hp,hlp⟩,hw⟩hd;have HT:=O (show uo s=false by rw[adg.o,iZ];exact⟨p,hxs.subset hp,by simp[hlp]⟩);have c0:W.cell? ⟨w.heap.size,0,none⟩=some (.bool false):=by simp[World.cell?,hw.1]
   have HF:=O hw.2.1;clear hw;gi_wp2;refine⟨aR,.inl ⟨_,_,rfl,run_takeDeferred hd,?_⟩⟩;have tX:=cell_kept c0 (grownBy_putObj' _ wc.heap.size (.deferred none)) (fun r e=>by cases e;exact⟨_,hd,rfl⟩);refine⟨.bool false,?_,by rw[HT.o],HF.o.putObj (fun hl=>ab) _⟩;simp[results,Tryz.f97,go_sem,tX]
def nN(o:gq):Bool:=acB ⟨o.aE,o.host.data.toList,o.port⟩
theorem FT(o:gq)(w:World)(hs:o.host.size<100000) :
  aB 65 #[.agg o.cells.toArray] w fun e w'=>e=.returned (.bool (nN o))/\Fr aS w w':=by
 obtain⟨sec,host,port⟩:=o;unfold gq.cells;have HR:=O (show nN ⟨sec,host,port⟩=(uo host&&(decide (1<=port)&&decide (port<=65535)))from rfl);obtain⟨wb,jQ⟩:∃wb,wb=w.alloc (.cells #[.bool sec,.string host,.int .i64 port] 24):=⟨_,rfl⟩;have kf:Fr aS w wb:=by rw[jQ];exact(ae aS w).alloc _
 have lW:wb.heap[w.heap.size]?=some (.cells #[.bool sec,.string host,.int .i64 port] 24 (0,0)):=by rw[jQ];exact aC _ _
 have qL:=O jQ;clear jQ;go_enter func65,ntmps65;go_wp2_with fail
 rw[<-qL.o];refine(UH host wb hs).mono ?_;rintro e u⟨rfl,xZ⟩;have rS:=xZ.keep lW id;have c2:u.cell? ⟨w.heap.size,2,none⟩=some (.int .i64 port):=by simp[World.cell?,rS]
 generalize uo host=b at *
 cases b
 ·go_wp2;go_ret;exact⟨by rw[HR.o];rfl,kf.trans xZ⟩
 ·by_cases h1:1<=port
  ·have d1:decide (1<=port)=true:=bL h1;go_wp2;go_ret;exact⟨by rw[HR.o,d1];rfl,kf.trans xZ⟩
  ·have d1:decide (1<=port)=false:=bD h1;go_wp2;go_ret;exact⟨by rw[HR.o,d1];rfl,kf.trans xZ⟩
open Go.RowKit
theorem rF(base:Nat)(v:Value)(ss:List aj)(w:World)(h:du base w v ss) :
  aB 99 #[v] w fun e w'=>∃a c,e=.returned (.slice a ss.length c)/\du base w' (.slice a ss.length c) ss/\Fr aS w w':=by
 have hl:=h.qZ;rcases h.rd with ⟨a,c,rfl,rfl,_⟩|⟨bk,o,c,rfl,h1,h2,h3,h4⟩
 ·cases a with
  |none=>exact(slices_Clone_string_nil 0 c w).mono fun e w' ⟨he,hw⟩=>⟨none,0,he,du.nil _ _,hw▸ae _ _⟩
  |some a =>
   refine(slices_Clone_string_zero a c w).mono fun e w' ⟨v',he,ho,_,hb⟩=>?_;have hs:Strs w.heap.size w' v' []:=ho;obtain⟨a',c',hv⟩:=hs.form;exact⟨a',c',by rw[he,hv],by rw[<-hv];exact hs.in hl,fj hb⟩
 ·refine(slices_Clone_string bk o ss.length c ss w (ay _) ab (fun j hj=>h4 j _ (by simp[List.getD,hj]))).mono fun e w' ⟨v',he,ho,_,hb⟩=>?_;rw[aD (ay _)]at ho;have hs:Strs w.heap.size w' v' ss:=ho;obtain⟨a',c',hv⟩:=hs.form;exact⟨a',c',by rw[he,hv],by rw[<-hv];exact hs.in hl,fj hb⟩
def UN(base:Nat)(m:aP bE)(w:World)(e:Ending)(w':World):Prop :=
 ∃r:aP Value,e=.returned (.agg r.cells.toArray)/\r.Reads (du base w') m/\(∀u∈r.cells,u.oneCell'=true)/\Fr aS w w'
theorem FV{r:aP Value}{a b:eQ}{n m c d:Nat}(h1:r.a.dom=.slice a n c)(h2:r.paths=.slice b m d):∀u∈r.cells,u.oneCell'=true:=by
 intro u hu;simp only[aP.cells,bB,cz,dU]at hu;rcases hu with rfl|rfl|rfl|rfl|rfl|rfl|rfl|rfl|rfl|rfl|rfl|rfl|rfl|rfl|rfl|rfl<;>first|rfl|(rw[h1];rfl)|(rw[h2];rfl)
theorem ur(base:Nat)(g:aP Value)(m:aP bE)(w:World)(ix:base<=w.heap.size)(h:g.Reads (du base w) m) :
  aB 94 #[.agg g.cells.toArray] w (UN base m w):=by
 have hpi:=h.2.2.2.2.2.2;have hdi:=h.2.2.2.2.1.2.2.2.2.2.2.2;have H:=O h;clear h;unfold aP.cells;obtain⟨ad,cd,hd⟩:=hdi.rd.form;obtain⟨ap,cp,hp⟩:=hpi.rd.form;rw[hp]at hpi;rw[hd]at hdi;rw[hd,hp];clear hd hp;go_enter func94,ntmps94;go_wp2_with fail
 have oW:Fr aS w _:=((ae aS w).alloc (.cells #[.bool g.o.aE,.string g.o.host,.int .i64 g.o.port,.bool g.proxy,.string g.user,.string g.pass,.int .i64 g.a.scheme,.string g.a.aK,.string g.a.bq,.string g.a.cy,.bool g.a.cA,.string g.a.eF,.bool g.a.cN,.slice ad m.a.dom.length cd,.int .i64 g.count,.slice ap m.paths.length cp] 133)).alloc (.cells eS 133)
 have b0:=Below.heap_alloc (w.alloc (.cells #[.bool g.o.aE,.string g.o.host,.int .i64 g.o.port,.bool g.proxy,.string g.user,.string g.pass,.int .i64 g.a.scheme,.string g.a.aK,.string g.a.bq,.string g.a.cy,.bool g.a.cA,.string g.a.eF,.bool g.a.cN,.slice ad m.a.dom.length cd,.int .i64 g.count,.slice ap m.paths.length cp] 133)) (.cells eS 133) w.heap.size aR;rw[aC]at b0
 have b1:=aC (w.alloc (.cells #[.bool g.o.aE,.string g.o.host,.int .i64 g.o.port,.bool g.proxy,.string g.user,.string g.pass,.int .i64 g.a.scheme,.string g.a.aK,.string g.a.bq,.string g.a.cy,.bool g.a.cA,.string g.a.eF,.bool g.a.cN,.slice ad m.a.dom.length cd,.int .i64 g.count,.slice ap m.paths.length cp] 133)) (.cells eS 133)
 rw[show(w.alloc (.cells #[.bool g.o.aE,.string g.o.host,.int .i64 g.o.port,.bool g.proxy,.string g.user,.string g.pass,.int .i64 g.a.scheme,.string g.a.aK,.string g.a.bq,.string g.a.cy,.bool g.a.cA,.string g.a.eF,.bool g.a.cN,.slice ad m.a.dom.length cd,.int .i64 g.count,.slice ap m.paths.length cp] 133)).heap.size=w.heap.size+1 from aR]at b1
 generalize (w.alloc (.cells _ 133)).alloc _=W at oW b0 b1;have hpi:=hpi.di oW;have hdi:=hdi.di oW;refine(rF base _ m.paths W hpi).mono ?_;rintro e u1⟨a1,c1,rfl,BQ,dn⟩;have Ta:=dn.keep b0 id;have UO:=dn.keep b1 id;have ahy:=hdi.di dn;have adj:=oW.trans dn;have c13:u1.cell? ⟨w.heap.size,13,none⟩=some (.slice ad m.a.dom.length cd):=by simp[World.cell?,Ta]
 have c15:u1.cell? ⟨w.heap.size,15,none⟩=some (.slice ap m.paths.length cp):=by simp[World.cell?,Ta]
 have f15:u1.frozen? ⟨w.heap.size,15,none⟩=false:=by simp[World.frozen?,Ta]
 clear oW b0 b1 dn hpi hdi;have hlw:w.heap.size<=u1.heap.size:=adj.size;go_wp2_with fail
 have dz:=adj.gF (p:=⟨w.heap.size,15,none⟩) (ay _) (.slice a1 m.paths.length c1);have b0:=b_ Ta 15 (.slice a1 m.paths.length c1);have b1:=(sT (w:=u1) (b:=w.heap.size) (g:=w.heap.size+1) ab 15 (.slice a1 m.paths.length c1)).trans UO;have rG:rR base u1 (one w.heap.size):=by
  rintro k rfl hk;exact⟨ix,fun c f e=>by rw[Ta]at e;cases e⟩
 have kx:Fr (one w.heap.size) u1 (u1.setCell ⟨w.heap.size,15,none⟩ (.slice a1 m.paths.length c1)):=(ae (one w.heap.size) u1).setCell (p:=⟨w.heap.size,15,none⟩) (fun _=>rfl) _;have Mo:=BQ.fr kx rG;have su:=ahy.fr kx rG;clear BQ ahy rG kx Ta UO adj c13 c15 f15;generalize u1.setCell ⟨w.heap.size,15,none⟩ (.slice a1 m.paths.length c1)=U at *
 refine(rF base _ m.a.dom U su).mono ?_;rintro e u2⟨a2,c2,rfl,TF,il⟩
 have Ta:u2.heap[w.heap.size]?=some (.cells #[.bool g.o.aE,.string g.o.host,.int .i64 g.o.port,.bool g.proxy,.string g.user,.string g.pass,.int .i64 g.a.scheme,.string g.a.aK,.string g.a.bq,.string g.a.cy,.bool g.a.cA,.string g.a.eF,.bool g.a.cN,.slice ad m.a.dom.length cd,.int .i64 g.count,.slice a1 m.paths.length c1] 133 (0,0)):=il.keep b0 id;have UO:=il.keep b1 id;have hs4:=Mo.di il
 have HF:=dz.trans il;have c13:u2.cell? ⟨w.heap.size,13,none⟩=some (.slice ad m.a.dom.length cd):=by simp[World.cell?,Ta]
 have f13:u2.frozen? ⟨w.heap.size,13,none⟩=false:=by simp[World.frozen?,Ta]
 have b2:(u2.setCell ⟨w.heap.size,13,none⟩ (.slice a2 m.a.dom.length c2)).heap[w.heap.size]?=some (.cells #[.bool g.o.aE,.string g.o.host,.int .i64 g.o.port,.bool g.proxy,.string g.user,.string g.pass,.int .i64 g.a.scheme,.string g.a.aK,.string g.a.bq,.string g.a.cy,.bool g.a.cA,.string g.a.eF,.bool g.a.cN,.slice a2 m.a.dom.length c2,.int .i64 g.count,.slice a1 m.paths.length c1] 133 (0,0)):=b_ Ta 13 (.slice a2 m.a.dom.length c2)
 have b3:=(sT (w:=u2) (b:=w.heap.size) (g:=w.heap.size+1) ab 13 (.slice a2 m.a.dom.length c2)).trans UO;have rG:rR base u2 (one w.heap.size):=by
  rintro k rfl hk;exact⟨ix,fun c f e=>by rw[Ta]at e;cases e⟩
 have kx:Fr (one w.heap.size) u2 (u2.setCell ⟨w.heap.size,13,none⟩ (.slice a2 m.a.dom.length c2)):=(ae (one w.heap.size) u2).setCell (p:=⟨w.heap.size,13,none⟩) (fun _=>rfl) _;have hs5:=hs4.fr kx rG;have hd5:=TF.fr kx rG;have fY:=HF.gF (p:=⟨w.heap.size,13,none⟩) (ay _) (.slice a2 m.a.dom.length c2);have B2:=O b2;have B3:=O b3;clear b0 b1 Ta UO b2 b3 rG kx hs4 Mo su TF HF dz il
 have mI:(#[.bool g.o.aE,.string g.o.host,.int .i64 g.o.port,.bool g.proxy,.string g.user,.string g.pass,.int .i64 g.a.scheme,.string g.a.aK,.string g.a.bq,.string g.a.cy,.bool g.a.cA,.string g.a.eF,.bool g.a.cN,.slice a2 m.a.dom.length c2,.int .i64 g.count,.slice a1 m.paths.length c1]:bS).all (·.oneCell')=true:=bW (FV (r:={g with a:={g.a with dom:=.slice a2 m.a.dom.length c2},paths:=.slice a1 m.paths.length c1}) rfl rfl)
 have Mu:=O mI;clear mI;go_wp2_with (first|((with_reducible refine dk 13 ?_);refine aI rfl 133 (.tmp 1) rfl w.heap.size rfl _ _ (0,0) _ B2.o underlying133 rfl af ?_)|((with_reducible refine cV 133 ?_);refine aG rfl 133 (.tmp 2) (.tmp 13) rfl (w.heap.size+1) _ rfl rfl _ eS B3.o af rfl Mu.o ?_)|fail)
 have rG:rR base (u2.setCell ⟨w.heap.size,13,none⟩ (.slice a2 m.a.dom.length c2)) (one (w.heap.size+1)):=by
  rintro k rfl hk;exact⟨ab,fun c f e=>by rw[B3.o]at e;cases e⟩
 generalize (u2.setCell ⟨w.heap.size,13,none⟩ (.slice a2 m.a.dom.length c2))=V at *
 have kx:Fr (one (w.heap.size+1)) V (V.setRow (w.heap.size+1) #[.bool g.o.aE,.string g.o.host,.int .i64 g.o.port,.bool g.proxy,.string g.user,.string g.pass,.int .i64 g.a.scheme,.string g.a.aK,.string g.a.bq,.string g.a.cy,.bool g.a.cA,.string g.a.eF,.bool g.a.cN,.slice a2 m.a.dom.length c2,.int .i64 g.count,.slice a1 m.paths.length c1]):=(ae (one (w.heap.size+1)) V).setRow (fun _=>rfl) _
 refine aU (bu bC _ _ (w.heap.size+1) 133 #[.bool g.o.aE,.string g.o.host,.int .i64 g.o.port,.bool g.proxy,.string g.user,.string g.pass,.int .i64 g.a.scheme,.string g.a.aK,.string g.a.bq,.string g.a.cy,.bool g.a.cA,.string g.a.eF,.bool g.a.cN,.slice a2 m.a.dom.length c2,.int .i64 g.count,.slice a1 m.paths.length c1] (0,0) _ rfl (aY V (w.heap.size+1) _ _ _ _ B3.o) underlying133 rfl af) rfl ?_
 obtain⟨h1,h2,h3,h4,⟨k1,k2,k3,k4,k5,k6,k7,_⟩,h6,_⟩:=H.o;exact⟨{g with a:={g.a with dom:=.slice a2 m.a.dom.length c2},paths:=.slice a1 m.paths.length c1},rfl,⟨h1,h2,h3,h4,⟨k1,k2,k3,k4,k5,k6,k7,hd5.fr kx rG⟩,h6,hs5.fr kx rG⟩,FV rfl rfl,fY.setRow (fun h=>absurd h ab) _⟩
def adK(b:Nat)(w:World)(bk cap:Nat)(p:aX->Bool)(xs:cY)(i j:Value)(wr:World):Prop :=
 ∃(m n:Nat) (ys:cY),i=.int .i64 m/\j=.int .i64 n/\m<n/\n<=xs.length/\ys.length=xs.length/\OwnRows b 137 12 wr (.slice (some ⟨bk,0,none⟩) xs.length cap) ys /\
  ys.take m=(xs.take n).filter (fun x=>!p x)/\ys.drop n=xs.drop n/\Fr (one bk) w wr
theorem zD{p:aX->Bool}:∀ {l:cY} (i:Nat),l.any p=true->∃k x,l[k]?=some x/\p x=true/\(l.take k).any p=false/\lQ p l i=((i+k:Nat):Int)
 |[],_,h=>by simp at h
 |a :: l,i,h=>by
  cases ha:p a
  ·rw[List.any_cons,ha,jE]at h;obtain⟨k,x,h1,h2,h3,h4⟩:=zD (i+1) h;refine⟨k+1,x,by simpa using h1,h2,by simp[ha,h3],?_⟩;rw[lQ,ha];simp only[cJ,eV];rw[h4];congr 1;omega
  ·exact⟨0,a,rfl,ha,rfl,by rw[lQ,ha];simp⟩
theorem zE{p:aX->Bool}{l:cY}(h:l.any p=false):l.filter (fun x=>!p x)=l:=by
 rw[List.filter_eq_self];intro a ha;have:=eX.1 h a ha;simpa using this
theorem pO(b:Nat)(g:Nat)(cap:bS)(p:aX->Bool)(v:Value)(xs:cY)(w:World)(eg:∀args w,(callFunc g args).run prog w=.ok (.enter g args) w)(hp:gL (own v) w g cap p xs)(hv:OwnRows b 137 12 w v xs) :
  aB 141 #[v,.func (.func g) #[] cap] w fun e w'=>∃a c,e=.returned (.slice a (xs.filter (fun x=>!p x)).length c)/\OwnRows b 137 12 w' (.slice a (xs.filter (fun x=>!p x)).length c) (xs.filter (fun x=>!p x))/\Fr (own v) w w'/\own (.slice a (xs.filter (fun x=>!p x)).length c)=own v:=by
 cases ja:xs.any p
 ·have rH:=O (kh (i:=0) ja);rw[zE ja];obtain⟨av,cv,fH⟩:=hv.form;subst fH;go_enter func141,ntmps141;go_wp2_with fail
  refine(uu g cap p _ xs w eg hp.none hv.at).mono ?_;rintro e w1⟨rfl,dn⟩;rw[rH.o];go_wp2;go_ret;exact⟨_,_,rfl,hv.fr dn (fun _ _ h=>h),dn.mono (fun _ _ h=>absurd h id),rfl⟩
 ·obtain⟨k0,x0,Ht,DC,uY,rH⟩:=zD 0 ja;rw[bw]at rH;have QD:=(List.getElem?_eq_some_iff.1 Ht).1;obtain⟨bk,cp,Kv⟩:∃bk cp,v=.slice (some ⟨bk,0,none⟩) xs.length cp:=by
   rcases hv.2.2 with ⟨_,hn⟩|⟨bk,cp,cur,hv,_⟩
   ·omega
   ·exact⟨bk,cp,hv⟩
  subst Kv;obtain⟨BV,cur,rW,q1,q2,q3,q4,q5,q6⟩:=hv.open (g:=bk) rfl;cases rW;unfold maxLen at q4;have dX:=O hv.1;have DD:=O (show xs.take k0=(xs.take (k0+1)).filter (fun x=>!p x)by
   rw[dW Ht,cG,zE uY];simp[DC])
  have HP:=O hp;have Y5:=O rH;clear ja uY Ht DC rH q2 q5 q6 hp;go_enter func141,ntmps141;go_wp2_with fail
  refine(uu g cap p _ xs w eg HP.o.none hv.at).mono ?_;rintro e w1⟨rfl,dn⟩;rw[Y5.o];have EE:=hv.fr dn (fun _ _ h=>h);have Jg:((k0:Int)== -1)=false:=by rw[aL];omega
  go_wp2;go_loopw[5,6] (adK b w bk cp p xs) (fun _ j _=>xs.length-(intOf j).toNat)
  case atStart=>exact⟨k0,k0+1,xs,rfl,bg,ab,ab,rfl,EE,DD.o,rfl,dn.mono (fun _ _ h=>absurd h id)⟩
  case round =>
   obtain⟨m,n,ys,rfl,rfl,hmn,hn,hlen,cQ,rp,sH,cL⟩:=hrel;have HT:=O rp;have HD:=O sH;have jI:=O hlen;clear rp sH hlen;rw[<-jI.o]at cQ;have rI:=cQ.at;by_cases fk:n<xs.length
   ·rcases rI.2 with ⟨_,_,_,e,_⟩|⟨Jf,of,c,hf,h1,h2,h3,h4⟩
    ·have hl:=jI.o;rw[e]at hl;simp at hl;omega
    ·cases hf;have dP:=O (List.getElem?_eq_getElem fk);have yb:ys[n]?=some xs[n]:=by
      have e:=aq (fun l:cY=>l[0]?) HD.o;simp only[List.getElem?_drop,Nat.add_zero]at e;rw[e,dP.o]
     have hcell:=h4 n _ yb;simp only[bw]at hcell;have iw:=O (bM fk);generalize xs[n]=x at dP hcell iw yb;have lp:=(dX.o x iw.o).1;have mI:=O (dX.o x iw.o).2;have jq:=fun W=>run_storeCells_new (P:=prog) W 137 #[.bool false,.string ⟨#[]⟩,.int .i64 0,.bool false,.string ⟨#[]⟩,.int .i64 0,.string ⟨#[]⟩,.string ⟨#[]⟩,.bool false,.string ⟨#[]⟩,.string ⟨#[]⟩,.int .i64 0] x (by rw[lp];rfl) mI.o
     have gO:Fr aS wr (wr.alloc (.cells x.toArray 137)):=(ae aS wr).alloc _;have fB:=O (HP.o x iw.o (wr.alloc (.cells x.toArray 137)) ((cL.alloc _).mono (fun k _ h=>by have e:k=bk:=h;rw[e];rfl)));have Hy:=O (AO lp);have je:=cL.alloc (.cells x.toArray 137);have fA:=cQ.fr gO (fun _ _ h=>h);have p_:(wr.alloc (.cells x.toArray 137)).heap[wr.heap.size]?=some (.cells x.toArray 137 (0,0)):=aC _ _
     have tG:=O p_;clear h4 yb p_ gO;go_wp2_with (first|((with_reducible refine dk 25 ?_);refine a_ rfl 137 (.tmp 24) rfl bk (n*12) rfl x _ hcell underlying137 rfl Hy.o ?_)|((with_reducible refine dk 27 ?_);refine aI rfl 137 (.tmp 7) rfl wr.heap.size rfl _ x.toArray (0,0) _ tG.o underlying137 rfl (by rw[aZ];exact Hy.o) ?_)|fail)
     have hlw:wr.heap.size<(wr.alloc (.cells x.toArray 137)).heap.size:=aR;clear jq hcell;generalize wr.alloc (.cells x.toArray 137)=W2 at *
     refine fB.o.mono ?_;rintro e w3⟨rfl,il⟩;have qw:=je.trans (il.mono (fun _ _ h=>absurd h id));have fq:=fA.fr il (fun _ _ h=>h);have sV:=O (il.keep tG.o id);have Nq:=O jI.o;cases qy:p x
     ·have Xy:=O (fq.there (g:=bk) (cap:=cp) (by rw[jI.o]) (o:=m*12) (n:=x.toArray.size) (by
       have hmc:(m+1)*12<=cp*12:=bO _ ab;rw[aZ,lp];omega))
      have eZ:=fq.store (i:=m) (y:=x) (by rw[jI.o];omega) lp mI.o (g:=bk) rfl;rw[jI.o]at eZ;have oo:=qw.step (fE (ae (one bk) w3) (fun _=>rfl) x (m*12)) (fun _ _ h=>h)
      go_wp2_with (first|((with_reducible refine dk 32 ?_);refine aI rfl 137 (.tmp 7) rfl wr.heap.size rfl _ x.toArray (0,0) _ sV.o underlying137 rfl (by rw[aZ];exact Hy.o) ?_)|((with_reducible refine cV 137 ?_);refine ig rfl 137 (.tmp 33) (.tmp 32) rfl bk (m*12) x.toArray rfl rfl Xy.o (by rw[aZ];exact Hy.o) (bW mI.o) ?_)|fail)
      go_roundw
      case rel =>
       refine⟨m+1,n+1,ys.set m x,bg,bg,ab,ab,by rw[d_];exact Nq.o,eZ,?_,?_,oo⟩
       ·rw[dW (l:=ys.set m x) (List.getElem?_set_self (by rw[Nq.o];omega)),gi (ay m),dW dP.o,cG,HT.o];simp[qy]
       ·rw[gj ab];have e:=aq (List.drop 1) HD.o;simpa[ew]using e
      case measure=>simp[intOf];omega
     ·rw[jI.o]at fq;go_wp2_with fail
      go_roundw
      case rel =>
       refine⟨m,n+1,ys,rfl,bg,ab,ab,Nq.o,fq,?_,?_,qw⟩
       ·rw[dW dP.o,cG,HT.o];simp[qy]
       ·have e:=aq (List.drop 1) HD.o;simpa[ew]using e
      case measure=>simp[intOf];omega
   ·have rJ:n=xs.length:=ab;subst rJ;have fe:=O (show ys.take m=xs.filter (fun x=>!p x)by have h:=HT.o;rw[aD (ay _)]at h;exact h);have sG:(ys.take m).length=m:=by rw[aM,jI.o];omega
    have zt:=O (show(xs.filter (fun x=>!p x)).length=m by rw[<-fe.o];exact sG);have hcut:=cQ.cut (i:=m) (by rw[jI.o];omega) (g:=bk) (cap:=cp) (by rw[jI.o]);have hle:(xs.length-m)*12+m*12<=cp*12:=by rw[<-dE];exact bO _ ab
    have B7:(Builtin.zeroCells EX (xs.length-m)).toList.length=(xs.length-m)*12:=by simp[Builtin.zeroCells]
    have xh:=fun ty=>jv (P:=prog) wr 119 137 ty EX underlying119 (fun w=>af) ag PR bk (m*12) (xs.length-m) (cp-m) ab (by
     have:=cQ.there (g:=bk) (cap:=cp) (by rw[jI.o]) (o:=m*12) (n:=(xs.length-m)*12) ab;exact this)
    have yc:=hcut.behind (o:=m*12) (vs:=(Builtin.zeroCells EX (xs.length-m)).toList) (by rw[sG];exact ay _) (g:=bk) (cap:=cp) (by rw[sG]) (by rw[B7];omega);have oo:=cL.step (fE (ae (one bk) wr) (fun _=>rfl) (Builtin.zeroCells EX (xs.length-m)).toList (m*12)) (fun _ _ h=>h);clear cQ rI hcut B7 sG hle jI;go_wp2_with fail
    go_ret;rw[zt.o, <-fe.o];exact⟨_,_,rfl,yc,oo.mono (fun k _ h=>by have e:k=bk:=h;rw[e];rfl),rfl⟩
theorem adL:∃i0:TypeInfo,prog.info? 137=some i0/\i0.size=12:=by
 have h:(prog.info? 137).map (·.size)=some 12:=af;cases hq:prog.info? 137 with
 |none=>rw[hq]at h;cases h
 |some i=>rw[hq]at h;exact⟨i,rfl,by simpa using h⟩
theorem Rk(b:Nat)(bk cp i j:Nat)(xs:cY)(w:World)(hv:OwnRows b 137 12 w (.slice (some ⟨bk,0,none⟩) xs.length cp) xs)(Qz:i<j)(hj:j<=xs.length) :
  aB 146 #[.slice (some ⟨bk,0,none⟩) xs.length cp,.int .i64 i,.int .i64 j] w fun e w'=>e=.returned (.slice (some ⟨bk,0,none⟩) (i+(xs.length-j)) cp)/\OwnRows b 137 12 w' (.slice (some ⟨bk,0,none⟩) (i+(xs.length-j)) cp) (xs.take i++xs.drop j)/\Fr (one bk) w w':=by
 obtain⟨i0,qp,kQ⟩:=adL;obtain⟨BV,cur,rW,q1,q2,q3,q4,q5,q6⟩:=hv.open (g:=bk) rfl;cases rW;unfold maxLen at q4;have dP:=hv.at;have dX:=hv.1;obtain⟨news,ky⟩:∃news,news=(xs.drop j).flatten:=⟨_,rfl⟩;have hdr:∀x∈xs.drop j,x.length=12/\∀u∈x,u.oneCell'=true:=fun x hx=>dX x (ez hx);have hlen:news.length=(xs.length-j)*12:=by rw[ky,gz (fun x hx=>(hdr x hx).1),bJ]
 obtain⟨A,hA,Nr⟩:∃A:Addr,(if cp=j then some (⟨bk,0,none⟩:Addr)else some ⟨bk,j*12,none⟩)=some A/\Hid (∀t u,news[t]?=some u->w.drew.cell? (A.add t)=some u):=by
  by_cases h:cp=j
  ·refine⟨⟨bk,0,none⟩,by simp[h],fun t u hu=>?_⟩
   have h0:news.length=0:=by rw[hlen];have:xs.length-j=0:=by omega
                             rw[this,ia]
   rw[dG.1 h0]at hu;simp at hu
  ·refine⟨⟨bk,j*12,none⟩,by simp[h],fun t u hu=>?_⟩;have ht:t<(xs.length-j)*12:=by
    have:=(List.getElem?_eq_some_iff.1 hu).1;omega
   have nj:xs.flatten[j*12+t]?=some u:=by
    have e:xs.flatten=(xs.take j).flatten++(xs.drop j).flatten:=by rw[<-ed,fL]
    have hl:(xs.take j).flatten.length=j*12:=by rw[gz (fun x hx=>(dX x (ey hx)).1),aM,dL hj]
    rw[e,List.getElem?_append_right ab,hl,show j*12+t-j*12=t from ab, <-ky];exact hu
   have hjt:j*12+t<xs.length*12:=by
    have:(xs.length-j)*12+j*12=xs.length*12:=by rw[<-dE];congr 1;omega
    omega
   rw[<-q6,List.getElem?_take_of_lt hjt]at nj;have zu:cur[j*12+t]?=some u:=by simpa using nj
   have ea:(Addr.add ⟨bk,j*12,none⟩ t)=⟨bk,j*12+t,none⟩:=by unfold Addr.add;split<;>simp_all
   rw[ea];show w.cell? _=some u;simp[World.cell?,q2,zu]
 have s1:=O hlen;have s2:=O (show∀u∈news,u.oneCell'=true by
  intro u hu;rw[ky]at hu;obtain⟨x,hx,FY⟩:=fK.1 hu;exact(hdr x hx).2 u FY)
 have s3:=O (show∀t,t<news.length->(w.drew.cell? ⟨bk,0+i*12+t,none⟩).isSome=true/\w.drew.frozen? ⟨bk,0+i*12+t,none⟩=false by
  intro t ht;rw[bw];have hle:i*12+(xs.length-j)*12<=cp*12:=by rw[<-dE];exact bO _ ab
  have:=hv.there (g:=bk) (cap:=cp) rfl (o:=i*12) (n:=(xs.length-j)*12) hle t ab;exact this)
 have UR:OwnRows b 137 12 w.drew (.slice (some ⟨bk,0,none⟩) xs.length cp) xs:=hv;have ql:=UR.CY (i:=i) (ys:=xs.drop j) ab hdr (g:=bk) (cap:=cp) rfl (by rw[bJ];omega);rw[bJ, <-ky]at ql;have yd:Fr (one bk) w (w.drew.setCells bk (i*12) news):=((ae (one bk) w).drew).setCells (fun _=>rfl) _ _;obtain⟨W1,B4⟩:∃W1,W1=w.drew.setCells bk (0+i*12) news:=⟨_,rfl⟩;have HW:=O B4;rw[bw]at B4;rw[<-B4]at ql yd
 have rJ:(xs.take i++xs.drop j).length=i+(xs.length-j):=by rw[aN,aM,bJ];omega
 have hm:i+(xs.length-j)<xs.length:=ab;have B7:(Builtin.zeroCells EX (xs.length-(i+(xs.length-j)))).toList.length=(xs.length-(i+(xs.length-j)))*12:=by simp[Builtin.zeroCells]
 have hle:(i+(xs.length-j))*12+(xs.length-(i+(xs.length-j)))*12<=cp*12:=by rw[<-dE];exact bO _ ab
 have xh:=fun ty=>jv (P:=prog) W1 119 137 ty EX underlying119 (fun w=>af) ag PR bk ((i+(xs.length-j))*12) (xs.length-(i+(xs.length-j))) (cp-(i+(xs.length-j))) ab (by
  have:=ql.there (g:=bk) (cap:=cp) (by rw[rJ]) (o:=(i+(xs.length-j))*12) (n:=(xs.length-(i+(xs.length-j)))*12) hle;exact this)
 have yc:=ql.behind (o:=(i+(xs.length-j))*12) (vs:=(Builtin.zeroCells EX (xs.length-(i+(xs.length-j)))).toList) (by rw[rJ];exact ay _) (g:=bk) (cap:=cp) (by rw[rJ]) (by rw[B7];omega);have oo:=yd.step (fE (ae (one bk) W1) (fun _=>rfl) (Builtin.zeroCells EX (xs.length-(i+(xs.length-j)))).toList ((i+(xs.length-j))*12)) (fun _ _ h=>h);have hne:((i:Int)==(j:Int))=false:=by rw[aL];omega
 have ado:i<=cp:=ab;have adp:j<=cp:=ab;have HA:=O hA;clear B4 ql UR yd ky hlen hdr dX dP rJ B7 hle q2 q5 q6 hv;go_enter func146,ntmps146;go_wp2_with fail
 have hA:=HA.o;go_region_law (refine step_append_room rfl (.tmp 22) (.tmp 25) 119 rfl 137 i0 12 underlying119 qp kQ bk 0 i cp (by simp[Act.eval,Act.put]) A (xs.length-j) (cp-j) news (by simp[Act.eval,Act.put]) s1.o Nr.out s2.o ab s3.o ?_;rw[<-HW.o])
 all_goals
  go_wp2_with fail
  go_ret;exact⟨rfl,yc,oo⟩
theorem Zh:(prog.info? 137).map (fun i=>(i.zero,i.size,i.bytes))=some (some (.agg #[.bool false,.string ⟨#[]⟩,.int .i64 0,.bool false,.string ⟨#[]⟩,.int .i64 0,.string ⟨#[]⟩,.string ⟨#[]⟩,.bool false,.string ⟨#[]⟩,.string ⟨#[]⟩,.int .i64 0]),12,144):=af
theorem Zi(v:Value)(xs:cY)(w:World)(h:dV 12 w v xs)(hl:xs.length<=1000000000) :
  aB 100 #[v] w fun e w'=>∃v',e=.returned v'/\OwnRows w.heap.size 137 12 w' v' xs/\Fr aS w w':=by
 obtain⟨a,c,hv⟩:=h.form;subst hv;have q22:∀(w:World) (a:eQ) (n c n' c':Nat),(binOp .eql 119 (.slice a n c) (.slice none n' c')).run prog w=.ok (.bool a.isNone) w:=fun w a n c n' c'=>Lib.run_eql_slice_nil w _ _ a n c n' c' underlying119;cases a with
 |none =>
  obtain⟨rfl,rfl⟩:xs=[]/\c=0:=by
   rcases h.2 with ⟨a',c',hv,hs,hc⟩|⟨bk,o',c',hf,_⟩
   ·injection hv with e1 e2 e3
    exact⟨hs,e3.trans (hc e1.symm)⟩
   ·injection hf with e1;cases e1
  go_enter func100,ntmps100;go_wp2;go_ret;exact⟨_,rfl,dx _ _ _ _,ae _ _⟩
 |some ad =>
  have HX:=h.1;have HC:=O (show∀j u,xs.flatten[j]?=some u->w.cell? (ad.add j)=some u from fun j u hj=>by
   rcases h.2 with ⟨_,_,_,e,_⟩|⟨bk,o',c',hf,g1,g2,g3,g4⟩
   ·subst e;simp at hj
   ·cases hf;have zt:xs.flatten.length=xs.length*12:=gz (fun x hx=>(HX x hx).1);have hjl:=(List.getElem?_eq_some_iff.1 hj).1;have hd:j/12<xs.length:=ab;have hm:j%12<12:=ab;have hx:(xs[j/12]).length=12:=(HX _ (bM hd)).1;have e1:=rm (k:=12) (xs:=xs) (fun x hx=>(HX x hx).1) (j:=j/12) (List.getElem?_eq_getElem hd) (i:=j%12) (List.getElem?_eq_getElem (by rw[hx];exact hm));rw[Nat.div_add_mod']at e1
    rw[e1]at hj;cases hj;have:=g4 (j/12) _ (List.getElem?_eq_getElem hd) (j%12) _ (List.getElem?_eq_getElem (by rw[hx];exact hm));have ea:(Addr.add ⟨bk,o',none⟩ j)=⟨bk,o'+j,none⟩:=by unfold Addr.add;split<;>simp_all
    rw[ea, <-this]
    congr 2
    omega)
  have HF:=O (show xs.flatten.length=xs.length*12 from gz (fun x hx=>(HX x hx).1));have Ve:=O HX;obtain⟨i0,hi,o9,kQ,ld⟩:=info_parts Zh;clear HX h;go_enter func100,ntmps100
  go_wp2_with (at_builtin;refine wpList_append_own _ rfl _ _ 119 rfl w.heap.size 137 i0 (.agg #[.bool false,.string ⟨#[]⟩,.int .i64 0,.bool false,.string ⟨#[]⟩,.int .i64 0,.string ⟨#[]⟩,.string ⟨#[]⟩,.bool false,.string ⟨#[]⟩,.string ⟨#[]⟩,.int .i64 0]) 12 144 underlying119 hi o9 kQ ld rfl ag _ _ _ rfl (World.ownsRow_made w #[] 0 (ay _) (aQ _) rfl) ad xs.length c xs.flatten rfl HF.o ?qc2 ?qc3 ?qc4 ?qc5 ?qc6 ?_)
  case qc2 =>
   intro j u hj;exact Lib.cell?_alloc_some _ (HC.o j u hj)
  case qc3 =>
   intro u hu;obtain⟨x,hx,FY⟩:=fK.1 hu;exact(Ve.o x hx).2 u FY
  case qc4=>unfold maxLen;omega
  case qc5=>omega
  case qc6=>simp
  intro v' w1 cQ js JX;go_wp2;go_ret;refine⟨v',rfl,⟨Ve.o,by simpa using cQ⟩,fj (((Below.refl _ w).alloc (ay _) _).grown js aR (by intro k hk;simp[Value.ownBlock]at hk;omega))⟩
theorem Z0:(prog.info? 105).map (fun i=>(i.zero,i.size,i.bytes))=some (some (.agg #[.bool false,.string ⟨#[]⟩,.int .i64 0,.int .i64 0]),4,40):=af
theorem P6(v:Value)(xs:cY)(w:World)(h:dV 4 w v xs)(hl:xs.length<=1000000000) :
  aB 41 #[v] w fun e w'=>∃v',e=.returned v'/\OwnRows w.heap.size 105 4 w' v' xs/\Fr aS w w':=by
 obtain⟨a,c,hv⟩:=h.form;subst hv;have q22:∀(w:World) (a:eQ) (n c n' c':Nat),(binOp .eql 92 (.slice a n c) (.slice none n' c')).run prog w=.ok (.bool a.isNone) w:=fun w a n c n' c'=>Lib.run_eql_slice_nil w _ _ a n c n' c' underlying92;cases a with
 |none =>
  obtain⟨rfl,rfl⟩:xs=[]/\c=0:=by
   rcases h.2 with ⟨a',c',hv,hs,hc⟩|⟨bk,o',c',hf,_⟩
   ·injection hv with e1 e2 e3
    exact⟨hs,e3.trans (hc e1.symm)⟩
   ·injection hf with e1;cases e1
  go_enter func41,ntmps41;go_wp2;go_ret;exact⟨_,rfl,dx _ _ _ _,ae _ _⟩
 |some ad =>
  have HX:=h.1;have HC:=O (show∀j u,xs.flatten[j]?=some u->w.cell? (ad.add j)=some u from fun j u hj=>by
   rcases h.2 with ⟨_,_,_,e,_⟩|⟨bk,o',c',hf,g1,g2,g3,g4⟩
   ·subst e;simp at hj
   ·cases hf;have zt:xs.flatten.length=xs.length*4:=gz (fun x hx=>(HX x hx).1);have hjl:=(List.getElem?_eq_some_iff.1 hj).1;have hd:j/4<xs.length:=ab;have hm:j%4<4:=ab;have hx:(xs[j/4]).length=4:=(HX _ (bM hd)).1;have e1:=rm (k:=4) (xs:=xs) (fun x hx=>(HX x hx).1) (j:=j/4) (List.getElem?_eq_getElem hd) (i:=j%4) (List.getElem?_eq_getElem (by rw[hx];exact hm));rw[Nat.div_add_mod']at e1;rw[e1]at hj
    cases hj;have:=g4 (j/4) _ (List.getElem?_eq_getElem hd) (j%4) _ (List.getElem?_eq_getElem (by rw[hx];exact hm));have ea:(Addr.add ⟨bk,o',none⟩ j)=⟨bk,o'+j,none⟩:=by unfold Addr.add;split<;>simp_all
    rw[ea, <-this]
    congr 2
    omega)
  have HF:=O (show xs.flatten.length=xs.length*4 from gz (fun x hx=>(HX x hx).1));have Ve:=O HX;obtain⟨i0,hi,o9,kQ,ld⟩:=info_parts Z0;clear HX h;go_enter func41,ntmps41
  go_wp2_with (at_builtin;refine wpList_append_own _ rfl _ _ 92 rfl w.heap.size 105 i0 (.agg #[.bool false,.string ⟨#[]⟩,.int .i64 0,.int .i64 0]) 4 40 underlying92 hi o9 kQ ld rfl ag _ _ _ rfl (World.ownsRow_made w #[] 0 (ay _) (aQ _) rfl) ad xs.length c xs.flatten rfl HF.o ?qc2 ?qc3 ?qc4 ?qc5 ?qc6 ?_)
  case qc2 =>
   intro j u hj;exact Lib.cell?_alloc_some _ (HC.o j u hj)
  case qc3 =>
   intro u hu;obtain⟨x,hx,FY⟩:=fK.1 hu;exact(Ve.o x hx).2 u FY
  case qc4=>unfold maxLen;omega
  case qc5=>omega
  case qc6=>simp
  intro v' w1 cQ js JX;go_wp2;go_ret;refine⟨v',rfl,⟨Ve.o,by simpa using cQ⟩,fj (((Below.refl _ w).alloc (ay _) _).grown js aR (by intro k hk;simp[Value.ownBlock]at hk;omega))⟩
def afg(w:World)(p:aX->Bool)(xs:cY)(i:Value)(wr:World):Prop :=
 ∃k:Nat,k<=xs.length/\i=.int .i64 k/\(xs.take k).any p=false/\Fr aS w wr
theorem IV(g:Nat)(cap:bS)(p:aX->Bool)(v:Value)(xs:cY)(w:World)(eg:∀args w,(callFunc g args).run prog w=.ok (.enter g args) w)(hp:gL aS w g cap p xs)(hv:dV 24 w v xs) :
  aB 36 #[v,.func (.func g) #[] cap] w fun e w'=>e=.returned (.int .i64 (lQ p xs 0))/\Fr aS w w':=by
 obtain⟨av,cv,fH⟩:=hv.form;subst fH;have dX:=O hv.1;go_enter func36,ntmps36;go_wp2;go_loopw[8] (afg w p xs) (fun i _=>xs.length-(intOf i).toNat)
 case atStart=>exact⟨0,aQ _,rfl,rfl,ae _ _⟩
 case round =>
  obtain⟨k,hk,rfl,hn,cL⟩:=hrel;have HN:=O hn;clear hn;by_cases fk:k<xs.length
  ·rcases(hv.fG cL).2 with ⟨_,_,_,e,_⟩|⟨bk,of,c,hf,h1,h2,h3,h4⟩
   ·rw[e]at fk;exact absurd fk (cq _)
   ·cases hf;unfold maxLen at h2;have dP:=O (List.getElem?_eq_getElem fk);have hcell:=h4 k _ dP.o;have iw:=O (bM fk);generalize xs[k]=x at dP hcell iw;have fB:=O (hp x iw.o wr cL);have lp:=(dX.o x iw.o).1;clear h4;cases qy:p x
    ·have pV:=O (any_take_succ dP.o HN.o qy);go_wp2_with (first|((with_reducible refine dk 15 ?_);refine a_ rfl 50 (.tmp 14) rfl bk (of+k*24) rfl x _ hcell underlying50 rfl (WV lp) ?_)|fail)
     refine fB.o.mono ?_;rintro e w1⟨rfl,dn⟩;rw[qy];go_wp2;go_roundw
     case rel=>exact⟨k+1,ab,bg,pV.o,cL.trans dn⟩
     case measure=>simp[intOf];omega
    ·have fe:=O (oK (i:=0) dP.o qy HN.o);go_wp2_with (first|((with_reducible refine dk 15 ?_);refine a_ rfl 50 (.tmp 14) rfl bk (of+k*24) rfl x _ hcell underlying50 rfl (WV lp) ?_)|fail)
     refine fB.o.mono ?_;rintro e w1⟨rfl,dn⟩;rw[qy];go_wp2;go_ret;rw[fe.o,bw];exact⟨rfl,cL.trans dn⟩
  ·have fe:=O (show lQ p xs 0= -1 from kh (by have h:=HN.o;rw[aD ab]at h;exact h));go_wp2;go_ret;rw[fe.o];exact⟨rfl,cL⟩
theorem Cb(g:Nat)(cap:bS)(p:aX->Bool)(v:Value)(xs:cY)(w:World)(eg:∀args w,(callFunc g args).run prog w=.ok (.enter g args) w)(hp:gL aS w g cap p xs)(hv:dV 24 w v xs) :
  aB 23 #[v,.func (.func g) #[] cap] w fun e w'=>e=.returned (.bool (xs.any p))/\Fr aS w w':=by
 have hb:=O (rD p xs 0);go_enter func23,ntmps23;go_wp2_with fail
 refine(IV g cap p v xs w eg hp hv).mono ?_;rintro e w1⟨rfl,dn⟩;go_wp2;go_ret;exact⟨fy hb.o,dn⟩
def afh(w:World)(p:aX->Bool)(xs:cY)(i:Value)(wr:World):Prop :=
 ∃k:Nat,k<=xs.length/\i=.int .i64 k/\(xs.take k).any p=false/\Fr aS w wr
theorem IW(g:Nat)(cap:bS)(p:aX->Bool)(v:Value)(xs:cY)(w:World)(eg:∀args w,(callFunc g args).run prog w=.ok (.enter g args) w)(hp:gL aS w g cap p xs)(hv:dV 22 w v xs) :
  aB 37 #[v,.func (.func g) #[] cap] w fun e w'=>e=.returned (.int .i64 (lQ p xs 0))/\Fr aS w w':=by
 obtain⟨av,cv,fH⟩:=hv.form;subst fH;have dX:=O hv.1;go_enter func37,ntmps37;go_wp2;go_loopw[8] (afh w p xs) (fun i _=>xs.length-(intOf i).toNat)
 case atStart=>exact⟨0,aQ _,rfl,rfl,ae _ _⟩
 case round =>
  obtain⟨k,hk,rfl,hn,cL⟩:=hrel;have HN:=O hn;clear hn;by_cases fk:k<xs.length
  ·rcases(hv.fG cL).2 with ⟨_,_,_,e,_⟩|⟨bk,of,c,hf,h1,h2,h3,h4⟩
   ·rw[e]at fk;exact absurd fk (cq _)
   ·cases hf;unfold maxLen at h2;have dP:=O (List.getElem?_eq_getElem fk);have hcell:=h4 k _ dP.o;have iw:=O (bM fk);generalize xs[k]=x at dP hcell iw;have fB:=O (hp x iw.o wr cL);have lp:=(dX.o x iw.o).1;clear h4;cases qy:p x
    ·have pV:=O (any_take_succ dP.o HN.o qy);go_wp2_with (first|((with_reducible refine dk 15 ?_);refine a_ rfl 33 (.tmp 14) rfl bk (of+k*22) rfl x _ hcell underlying33 rfl (WR lp) ?_)|fail)
     refine fB.o.mono ?_;rintro e w1⟨rfl,dn⟩;rw[qy];go_wp2;go_roundw
     case rel=>exact⟨k+1,ab,bg,pV.o,cL.trans dn⟩
     case measure=>simp[intOf];omega
    ·have fe:=O (oK (i:=0) dP.o qy HN.o);go_wp2_with (first|((with_reducible refine dk 15 ?_);refine a_ rfl 33 (.tmp 14) rfl bk (of+k*22) rfl x _ hcell underlying33 rfl (WR lp) ?_)|fail)
     refine fB.o.mono ?_;rintro e w1⟨rfl,dn⟩;rw[qy];go_wp2;go_ret;rw[fe.o,bw];exact⟨rfl,cL.trans dn⟩
  ·have fe:=O (show lQ p xs 0= -1 from kh (by have h:=HN.o;rw[aD ab]at h;exact h));go_wp2;go_ret;rw[fe.o];exact⟨rfl,cL⟩
theorem Cc(g:Nat)(cap:bS)(p:aX->Bool)(v:Value)(xs:cY)(w:World)(eg:∀args w,(callFunc g args).run prog w=.ok (.enter g args) w)(hp:gL aS w g cap p xs)(hv:dV 22 w v xs) :
  aB 25 #[v,.func (.func g) #[] cap] w fun e w'=>e=.returned (.bool (xs.any p))/\Fr aS w w':=by
 have hb:=O (rD p xs 0);go_enter func25,ntmps25;go_wp2_with fail
 refine(IW g cap p v xs w eg hp hv).mono ?_;rintro e w1⟨rfl,dn⟩;go_wp2;go_ret;exact⟨fy hb.o,dn⟩
def bA(l:Bs):aj:=⟨l.toArray⟩
theorem fT(l:Bs):(bA l).data.toList=l:=by unfold bA;simp
theorem TK(s:aj):bA s.data.toList=s:=by unfold bA;simp
def ke(ps:List jn)(name:Bs):Option Bs:=(ps.find? fun p=>dH p.1 name).map (·.2)
def vt:Bs:=[114,101,97,108,109]
def G0:Bs:=[98,97,115,105,99]
def Ch:Bs:=[100,105,103,101,115,116]
def yO:Bs:=[97,108,103,111,114,105,116,104,109]
def xJ:Bs:=[77,68,53]
def G1:Bs:=[83,72,65,45,50,53,54]
def yP:Bs:=[45,115,101,115,115]
def vu:Bs:=[110,111,110,99,101]
def JQ:Bs:=[113,111,112]
def lY:Bs:=[97,117,116,104]
def pZ:Bs:=[97,117,116,104,45,105,110,116]
def lZ:Bs:=[111,112,97,113,117,101]
def Aw:Bs:=[115,116,97,108,101]
def lN:Bs:=[116,114,117,101]
def qI:Bs:=[100,111,109,97,105,110]
def TL(s:Bs):Option (Int×Bool) :=
 if dH s xJ then some (2,false)
 else if dH s (xJ++yP)then some (2,true)
 else if dH s G1 then some (3,false)
 else if dH s (G1++yP)then some (3,true)
 else none
def O7(l:List Bs):Option Bs :=
 if l.any (fun w=>dH w lY)then some lY else if l.any (fun w=>dH w pZ)then some pZ else none
def TM(q:Bs):Option Bs :=
 match gU q with
 | .error _=>none
 | .ok l=>if 40<l.length then none else O7 l
def TN(ps:List jn):Option Bs :=
 match ke ps JQ with
 |none=>some []
 |some q=>TM q
def G2(d:Bs):List Bs:=((dY 32 d).filter fun p=>MH 47 p).map oB
def mU(x:ni):Option (fI bE) :=
 match ke x.params vt with
 |none=>none
 |some aK =>
  if dH x.scheme G0 then some ⟨1,bA aK,bA [],bA [],false,bA [],false,[]⟩else
  match TL ((ke x.params yO).getD xJ)with
  |none=>none
  |some (k,cA) =>
   if !dH x.scheme Ch then none else
   match ke x.params vu with
   |none=>none
   |some bq =>
    match TN x.params with
    |none=>none
    |some q=>some ⟨k,bA aK,bA bq,bA ((ke x.params lZ).getD []),cA,bA q,dH ((ke x.params Aw).getD []) lN,(G2 ((ke x.params qI).getD [])).map bA⟩
def O8:fI bE:=⟨0,bA [],bA [],bA [],false,bA [],false,[]⟩
def pE(a:fI bE)(x:ni):fI bE :=
 match mU x with
 |none=>a
 |some b=>if a.scheme<b.scheme then b else a
def i_(l:List ni):fI bE:=l.foldl pE O8
theorem MJ(l:List ni)(x:ni):i_ (l++[x])=pE (i_ l) x:=by simp[i_]
open Go.RowKit Go.Sort
abbrev gY:=aj×aj
def gY.cells(p:gY):aX:=[.string p.1,.string p.2]
def oD(w:World)(v:Value)(ps:List gY):Prop:=dV 2 w v (ps.map gY.cells)
def sS(s:aj):aj:=⟨(nk s.data.toList).toArray⟩
def vy(ps:List gY):List aj:=(ps.filter fun p=>!lU p.1 p.2).map fun p=>sS p.1
def I_(ps:List gY):List aj:=(ps.filter fun p=>lU p.1 p.2).map fun p=>sS p.1
def nB(ps:List gY):Nat:=((ps.filter fun p=>lU p.1 p.2).map fun p=>p.2.size).sum
def G9(ps:List gY):List aj:=vy ps++(if 1024<nB ps then I_ ps else [])
def acG(ps:List gY):List (aH):=Lib.compact (ue ((G9 ps).map fun s=>s.data.toList))
def xM(ps:List gY):List aj:=(acG ps).map fun l=>⟨l.toArray⟩
theorem G_(ps:List gY)(p:gY)(h:lU p.1 p.2=false):vy (ps++[p])=vy ps++[sS p.1]/\I_ (ps++[p])=I_ ps/\nB (ps++[p])=nB ps:=by
 unfold vy I_ nB;simp[cG,h]
theorem EI(ps:List gY)(p:gY)(h:lU p.1 p.2=true):vy (ps++[p])=vy ps/\I_ (ps++[p])=I_ ps++[sS p.1]/\nB (ps++[p])=nB ps+p.2.size:=by
 unfold vy I_ nB;simp[cG,h]
theorem Yk(ps:List gY):(vy ps).length<=ps.length:=by unfold vy;rw[ai];exact bT _ _
theorem acH(ps:List gY):(I_ ps).length<=ps.length:=by unfold I_;rw[ai];exact bT _ _
theorem J2{a b:aj}(h:lU a b=true):b.size<=128:=by
 unfold lU at h;split at h
 ·cases h
 ·omega
theorem aaW:∀ps:List gY,nB ps<=128*ps.length
 |[]=>by simp[nB]
 |p :: ps=>by
  have ih:=aaW ps;unfold nB at ih ⊢;rw[List.filter_cons];split
  ·rename_i h;have:=J2 h;simp only[cD,List.sum_cons,List.length_cons];omega
  ·simp only[List.length_cons];omega
theorem Qw{α:Type}{l:List α}{x:α}(h:l[k]?=some x):l.take (k+1)=l.take k++[x]:=by
 rw[cC,h];rfl
def vz(u v:Value):Prop:=∀k,u.ownBlock=some k->v.ownBlock≠some k
def agE(ps:List gY)(w:World)(out plain n i:Value)(wr:World):Prop :=
 ∃k:Nat,k<=ps.length/\i=.int .i64 k/\n=.int .i64 (nB (ps.take k))/\Strs w.heap.size wr out (vy (ps.take k))/\Strs w.heap.size wr plain (I_ (ps.take k))/\vz out plain/\Fr aS w wr
theorem Strs.lt(h:Strs base w v ss):∀k,v.ownBlock=some k->base<=k/\k<w.heap.size:=World.ownsRow.lt h
theorem Strs.kept{w':World}{row:Option Nat}(h:Strs base w v ss)(hg:w.grownBy w' row)(hne:∀k,row=some k->v.ownBlock≠some k):Strs base w' v ss:=by
 refine World.ownsRow.kept h hg ?_;cases hv:v.ownBlock with
 |none=>exact Or.inl rfl
 |some k=>exact Or.inr fun e=>hne k e.symm hv
theorem vz.sep{v2:Value}(h:vz u v)(hs:Sep w v v2)(hu:Strs base w u ss):vz u v2:=by
 intro k hk e;rcases hs with hs|hs
 ·rw[hs]at e;exact h k hk e
 ·have h1:=hs k e;have h2:=(hu.lt k hk).2;omega
theorem vz.symm(h:vz u v):vz v u:=fun k hv hu=>h k hu hv
theorem TT(ss:List aj):ss.map Value.string=(ss.map fun s=>s.data.toList).map encStr:=by
 rw[ic];rfl
def TU(ls:List (aH)):List aj:=ls.map fun l=>⟨l.toArray⟩
theorem G'(ls:List (aH)):(TU ls).map Value.string=ls.map encStr:=by unfold TU;rw[ic];rfl
theorem Fy(base:Nat)(v:Value)(ss:List aj)(w:World)(h:Strs base w v ss)(hl:ss.length<1000000) :
  aB 183 #[v] w fun e w'=>e=.returned (.tuple #[])/\Strs base w' v (TU (ue (ss.map fun s=>s.data.toList)))/\w.grownBy w' v.ownBlock:=by
 have h2:w.ownsRow base 9 1 v (ss.map fun s=>s.data.toList).length ((ss.map fun s=>s.data.toList).map encStr):=by
  rw[<-TT,ai];exact h
 refine(TQ base v _ w h2 (by rw[ai];exact hl)).mono ?_;rintro e w'⟨he,ho,hg⟩;refine⟨he,?_,hg⟩;unfold Strs;rw[G',show(TU (ue (ss.map fun s=>s.data.toList))).length=(ss.map fun s=>s.data.toList).length from by unfold TU ue;simp];exact ho
theorem yV(base:Nat)(v:Value)(ls:List (aH))(w:World)(h:Strs base w v (TU ls))(hl:ls.length<1000000) :
  aB 184 #[v] w fun e w'=>∃u,e=.returned u/\Strs base w' u (TU (Lib.compact ls))/\w.grownBy w' v.ownBlock:=by
 have e1:(TU ls).length=ls.length:=by unfold TU;simp
 have h2:w.ownsRow base 9 1 v ls.length (ls.map encStr):=by
  rw[<-G', <-e1];exact h
 refine(J0 base v ls w h2 hl).mono ?_;rintro e w'⟨u,he,ho,hg⟩;refine⟨u,he,?_,hg⟩;unfold Strs;rw[G',show(TU (Lib.compact ls)).length=(Lib.compact ls).length from by unfold TU;simp];exact ho
theorem Fz(ps:List gY)(v:Value)(w:World)(h:oD w v ps)(hl:ps.length<100000)(hz:∀p∈ps,p.1.size<100000/\p.2.size<100000) :
  aB 128 #[v] w fun e w'=>∃u,e=.returned u/\Strs w.heap.size w' u (xM ps)/\Fr aS w w':=by
 obtain⟨av,cv,hv⟩:=h.form;rw[ai]at hv;have HZ:=O hz;clear hz;subst hv;go_enter func128,ntmps128;go_wp2;go_loopw[3,4,5,11] (agE ps w) (fun _ _ _ i _=>ps.length-(intOf i).toNat)
 case atStart=>exact⟨0,aQ _,rfl,rfl,kI _ _,kI _ _,fun k e=>by simp[Value.ownBlock]at e,ae _ _⟩
 case round =>
  obtain⟨k,hk,rfl,rfl,ho,hp,Yl,cL⟩:=hrel;obtain⟨ao,co,Mp⟩:=ho.form;obtain⟨ap,cp,hpe⟩:=hp.form;have hn:=aaW (ps.take k);rw[aM]at hn;have SM:=Yk (ps.take k);have Ev:=acH (ps.take k);rw[aM]at SM Ev;by_cases fk:k<ps.length
  ·have o_:(k:Int)<(ps.length:Int):=ab;have dP:=O (List.getElem?_eq_getElem fk);have yx:=HZ.o _ (bM fk);generalize ps[k]=p at dP yx;obtain⟨nm,vl⟩:=p;obtain⟨kQ,ld⟩:=yx;have Qx:=O (Qw dP.o);have lT:dV 2 wr (.slice av ps.length cv) (ps.map gY.cells):=bh h cL;rcases lT.2 with ⟨_,_,_,e,_⟩|⟨bk,of,c,dn,h1,h2,h3,h4⟩
   ·have:ps.length=0:=by have:=aq List.length e;simpa using this
    omega
   rw[ai]at dn h1;cases dn;unfold maxLen at h2;have hcell:=h4 k (gY.cells (nm,vl)) (by rw[List.getElem?_map,dP.o];rfl);have c0:wr.cell? ⟨bk,of+k*2,none⟩=some (.string nm):=hcell 0 (.string nm) rfl;have c1:=hcell 1 (.string vl) rfl;clear hcell h4 lT;obtain⟨wb,jQ⟩:∃wb,wb=wr.alloc (.cells #[.string nm,.string vl] 142):=⟨_,rfl⟩;have kf:Fr aS wr wb:=by rw[jQ];exact(ae aS wr).alloc _
   have lW:wb.heap[wr.heap.size]?=some (.cells #[.string nm,.string vl] 142 (0,0)):=by rw[jQ];exact aC _ _
   have HC:=O (show∀U,Fr aS wb U->U.cell? ⟨wr.heap.size,0,none⟩=some (.string nm)/\U.cell? ⟨wr.heap.size,1,none⟩=some (.string vl)from fun U hU=>by
    have j1:=hU.keep lW id;simp[World.cell?,j1])
   have qL:=O jQ;have mh:=O (cL.trans kf);have HO:=O (ho.fr kf (fun _ h=>h.elim));have HP:=O (hp.fr kf (fun _ h=>h.elim));have ams:=O (show∀j,(Value.slice ap (I_ (ps.take k)).length cp).ownBlock=some j->j<wr.heap.size from fun j hj=>(hp.lt j (by rw[hpe];exact hj)).2);clear jQ kf lW ho hp cL;go_wp2_with fail
   rw[<-qL.o];refine(qX nm wb ab).mono ?_;rintro e u1⟨rfl,dn⟩;obtain⟨k0,k1⟩:=HC.o u1 dn;have lq:=O dn;clear dn c0 c1;go_wp2_with fail
   refine(Qu nm vl u1 ab ab).mono ?_;rintro e u2⟨rfl,dz⟩;obtain⟨k2,k3⟩:=HC.o u2 (lq.o.trans dz);have fY:=O ((mh.o.trans lq.o).trans dz);have yW:=lq.o.trans dz;have K3A:=O (show∀o:Obj,(u2.alloc o).cell? ⟨wr.heap.size,1,none⟩=some (.string vl)from fun o=>(HC.o _ (yW.alloc o)).2);have qN:=HO.o.fr yW (fun _ h=>h.elim);have CS:=HP.o.fr yW (fun _ h=>h.elim);have wT:w.heap.size<=u2.heap.size:=fY.o.size
   rw[Mp]at qN Yl;rw[hpe]at CS Yl;clear dz yW k0 k1;have HLA:=O (show(⟨(nk nm.data.toList).toArray⟩:aj)=sS nm from rfl);rw[HLA.o];generalize hla:sS nm=la at *
   have HE:=O hla;clear hla;cases TV:lU nm vl
   ·obtain⟨s1,s2,s3⟩:=G_ (ps.take k) (nm,vl) TV;rw[<-Qx.o,HE.o]at s1;rw[<-Qx.o]at s2 s3;have S1:=O s1;have S2:=O s2;have S3:=O s3;clear s1 s2 s3 TV;go_wp2_with (at_builtin;refine Bp rfl _ _ rfl w.heap.size (.slice ao _ co) (vy (ps.take k)) rfl (by apply iy;exact qN) ⟨u2.heap.size,0,none⟩ 1 la rfl (jk _ _ _ _) ab bH ?_;intro v' w3 fq Cf TW)
    have hp3:Strs w.heap.size w3 (.slice ap (I_ (ps.take k)).length cp) (I_ (ps.take k)):=(CS.alloc _).kept Cf (fun j hj=>Yl j hj);have acI:vz v' (.slice ap (I_ (ps.take k)).length cp):=(vz.sep Yl.symm TW (CS.alloc _)).symm;have iq:=O ((fY.o.alloc (.cells #[.string la] 9)).fP Cf (fun j hj=>(qN.block j hj)));go_roundw
    case rel=>exact⟨k+1,ab,bg,by rw[S3.o],by rw[S1.o];exact fq,by rw[S2.o];exact hp3,acI,iq.o⟩
    case measure=>simp[intOf];omega
   ·obtain⟨s1,s2,s3⟩:=EI (ps.take k) (nm,vl) TV;have SN:=J2 TV;rw[<-Qx.o,HE.o]at s2;rw[<-Qx.o]at s1 s3;have S1:=O s1;have S2:=O s2;have S3:=O s3;clear s1 s2 s3 TV
    go_wp2_with (at_builtin;refine Bp rfl _ _ rfl w.heap.size (.slice ap _ cp) (I_ (ps.take k)) rfl (by apply iy;exact CS) ⟨u2.heap.size,0,none⟩ 1 la rfl (jk _ _ _ _) ab bH ?_;intro v' w3 fq Cf TW;have k4:w3.cell? ⟨wr.heap.size,1,none⟩=some (.string vl):=Cf.cell (K3A.o _) (fun e=>absurd (ams.o _ e.symm) (Nat.lt_irrefl _)))
    have xN:Strs w.heap.size w3 (.slice ao (vy (ps.take k)).length co) (vy (ps.take k)):=(qN.alloc _).kept Cf (fun j hj hj2=>Yl j hj2 hj);have acI:vz (.slice ao (vy (ps.take k)).length co) v':=vz.sep Yl TW (qN.alloc _);have iq:=O ((fY.o.alloc (.cells #[.string la] 9)).fP Cf (fun j hj=>(CS.block j hj)));go_roundw
    case rel=>exact⟨k+1,ab,bg,by rw[S3.o];go_num,by rw[S1.o];exact xN,by rw[S2.o];exact fq,acI,iq.o⟩
    case measure=>simp[intOf];omega
  ·have o_:¬(k:Int)<(ps.length:Int):=ab;have Qv:ps.take k=ps:=aD ab;rw[Qv]at ho hp Mp hpe hn SM Ev ⊢;clear Qv;subst Mp hpe;have hs0:w.heap.size<=wr.heap.size:=cL.size;obtain⟨N,hN⟩:∃N,N=nB ps:=⟨_,rfl⟩;have HR1:=O (show 1024<N->G9 ps=vy ps++I_ ps from fun e=>by unfold G9;rw[<-hN,aA e]);have MQ:=O (show¬1024<N->G9 ps=vy ps from fun e=>by unfold G9;rw[<-hN,ar e,dR]);rw[<-hN]at hn ⊢;clear hN
   by_cases Ai:1024<N
   ·have HR:=O (HR1.o Ai);have amt:(1024:Int)<(N:Int):=ab;go_wp2_with (at_builtin;refine J1 rfl _ _ rfl w.heap.size _ (vy ps) rfl ho (.slice ap (I_ ps).length cp) (I_ ps) rfl hp.at ab ab ?_;intro v2 w2 qN xb)
    rw[<-HR.o]at qN;have fY:=O (cL.fP xb (fun j hj=>ho.block j hj));have uT:(G9 ps).length<1000000:=by rw[HR.o,aN];omega
    clear xb ho hp Yl;go_wp2_with fail
    refine(Fy w.heap.size v2 (G9 ps) w2 qN uT).mono ?_;rintro e w3⟨rfl,xN,Cf⟩;have iq:=O (fY.o.fP Cf (fun j hj=>qN.block j hj));go_wp2_with fail
    refine(yV w.heap.size v2 _ w3 xN (by unfold ue;simpa using uT)).mono ?_;rintro e w4⟨u,rfl,SQ,BU⟩;have jO:=O (iq.o.fP BU (fun j hj=>xN.block j hj));go_wp2;go_ret;exact⟨u,rfl,SQ,jO.o⟩
   ·have HR:=O (MQ.o Ai);have amt:¬(1024:Int)<(N:Int):=ab;rw[<-HR.o]at ho;have uT:(G9 ps).length<1000000:=by rw[HR.o];omega
    rw[<-HR.o];go_wp2_with fail
    refine(Fy w.heap.size _ (G9 ps) wr ho uT).mono ?_;rintro e w3⟨rfl,xN,Cf⟩;have iq:=O (cL.fP Cf (fun j hj=>ho.block j hj));go_wp2_with fail
    refine(yV w.heap.size _ _ w3 xN (by unfold ue;simpa using uT)).mono ?_;rintro e w4⟨u,rfl,SQ,BU⟩;have jO:=O (iq.o.fP BU (fun j hj=>xN.block j hj));go_wp2;go_ret;exact⟨u,rfl,SQ,jO.o⟩
def Pd(t:Bs):Prop:=∃n m:Bs,t=n++m/\n≠ []/\n.all EG=true/\m.all kV=true
def Pe(p:jn):Prop:=Ar p.1=true/\GY p.2=true
structure ni.Ok (x:ni):Prop where
 scheme:Ar x.scheme=true
 token:x.token=[]\/(x.params=[]/\Pd x.token)
 qZ:x.params.length<=16
 yX:∀p∈x.params,Pe p
 apart:∀(i j:Nat) p q,i<j->x.params[i]?=some p->x.params[j]?=some q->dH p.1 q.1=false
theorem taken(p:UInt8->Bool):∀l:Bs,(l.takeWhile p).all p=true
 |[]=>rfl
 |c :: l=>by
  cases h:p c
  ·rw[List.takeWhile_cons_of_neg (by simp[h])];rfl
  ·rw[List.takeWhile_cons_of_pos h,List.all_cons,h,taken p l];rfl
theorem CV(h:(gX r).isEmpty=false):Ar (gX r)=true:=by
 unfold Ar;rw[h];have:(gX r).all fV=true:=taken fV r;rw[this];rfl
theorem CW:∀(f:Nat) (r a z:Bs),r.length<=f->vg r=some (a,z)->a.all np=true
 |0,r,a,z,hf,h=>by
  have:r=[]:=cg ab;subst this;rw[vg.eq_def]at h;simp at h
 |f+1,[],a,z,hf,h=>by rw[vg.eq_def]at h;simp at h
 |f+1,x :: r,a,z,hf,h=>by
  rw[vg.eq_def]at h;simp only at h;by_cases h1:(x==34)=true
  ·rw[aA h1]at h;cases h;rfl
  ·rw[ar h1]at h;by_cases h2:(x==92)=true
   ·rw[aA h2]at h;cases r with
    |nil=>simp at h
    |cons y r' =>
     simp only at h;by_cases h3:np y=true
     ·rw[aA h3]at h;cases hq:vg r' with
      |none=>rw[hq]at h;simp at h
      |some p =>
       rw[hq]at h;simp at h;obtain⟨rfl,rfl⟩:=h;have:=CW f r' p.1 p.2 (by simp at hf;omega) hq;rw[List.all_cons,h3,this];rfl
     ·rw[ar h3]at h;simp at h
   ·rw[ar h2]at h;by_cases h3:np x=true
    ·rw[aA h3]at h;cases hq:vg r with
     |none=>rw[hq]at h;simp at h
     |some p =>
      rw[hq]at h;simp at h;obtain⟨rfl,rfl⟩:=h;have:=CW f r p.1 p.2 (by simp at hf;omega) hq;rw[List.all_cons,h3,this];rfl
    ·rw[ar h3]at h;simp at h
theorem Qy{a:Bs}(h:pB r=some (a,z)):GY a=true:=by
 unfold pB at h;unfold GY;split at h
 ·cases r with
  |nil=>cases h
  |cons c t =>
   have h':(if c==34 then vg t else none)=some (a,z):=h;by_cases hc:(c==34)=true
   ·rw[aA hc]at h';have:=CW _ t a z (ay _) h';rw[show nU a=true from this,ka]
   ·rw[ar hc]at h';cases h'
 ·rename_i hw;cases h;rw[CV (by simpa using hw)];rfl
theorem FB(h:kR ps r=.ok (p,z)):Pe p/\t_ ps p.1=false/\ps.length≠16:=by
 unfold kR at h;by_cases hn:lB r=true
 ·rw[ar (by simp[hn])]at h;cases hv:pB (nC r)with
  |none=>rw[hv]at h;cases h
  |some q =>
   rw[hv]at h;simp only at h;split at h
   ·cases h
   rename_i ht;split at h
   ·cases h
   rename_i hk;cases h;exact⟨⟨CV (Bl hn),Qy (a:=q.1) (z:=q.2) hv⟩,by simpa using ht,hk⟩
 ·rw[aA (by simpa using hn)]at h;cases h
structure vC (ps:List jn):Prop where
 qZ:ps.length<=16
 yX:∀p∈ps,Pe p
 apart:∀(i j:Nat) p q,i<j->ps[i]?=some p->ps[j]?=some q->dH p.1 q.1=false
theorem vC.nil:vC []:=⟨aR,aR,aR⟩
theorem vC.snoc(h:vC ps)(hp:Pe p)(ht:t_ ps p.1=false)(hl:ps.length≠16):vC (ps++[p]):=by
 refine⟨?_,?_,?_⟩
 ·have:=h.qZ;simp;omega
 ·intro q hq;rcases bQ.1 hq with g|g
  ·exact h.yX q g
  ·simp at g;subst g;exact hp
 ·intro i j q q' Qz hi hj;have hj':=(List.getElem?_eq_some_iff.1 hj).1;simp at hj';by_cases hjl:j<ps.length
  ·rw[List.getElem?_append_left hjl]at hj;rw[List.getElem?_append_left ab]at hi;exact h.apart i j q q' Qz hi hj
  ·have e:j=ps.length:=ab;subst e;rw[List.getElem?_append_left ab]at hi;simp at hj;subst hj;unfold t_ at ht;rw[eX]at ht;simpa using ht q (cj hi)
theorem CX:∀(f:Nat) (ps:List jn) (r:Bs) (q:List jn×Bs),vC ps->gQ f ps r=.ok q->vC q.1
 |0,ps,r,q,ho,h=>by rw[gQ]at h;cases h;exact ho
 |f+1,ps,r,q,ho,h=>by
  rw[gQ]at h;cases hp:kR ps r with
  |error e=>rw[hp]at h;cases h
  |ok p =>
   rw[hp]at h;obtain⟨p,r1⟩:=p;obtain⟨h1,h2,h3⟩:=FB hp;have Ey:=ho.snoc h1 h2 h3;simp only at h;split at h
   ·split at h
    ·exact CX f _ _ q Ey h
    ·cases h;exact Ey
   ·cases h
theorem MU{t:Bs}(h:singleR r=some (t,z)):Pd t:=by
 unfold singleR at h;split at h
 ·rename_i hc;cases h;simp only[cF,Bool.not_eq_true']at hc;refine⟨_,_,rfl,fun e=>?_,?_,?_⟩
  ·rw[e]at hc;cases hc.1
  ·exact taken EG r
  ·exact taken kV _
 ·cases h
theorem Pf{x:ni}(h:o7 k r=.ok (x,z)):x.Ok/\k≠8:=by
 unfold o7 at h;split at h
 ·cases h
 rename_i hw;have hw':=CV (show(gX r).isEmpty=false by simpa using hw);split at h
 ·cases h
 rename_i hk;refine⟨?_,hk⟩;split at h
 ·cases h;exact⟨hw',Or.inl rfl,aR,aR,aR⟩
 split at h
 ·cases h
 split at h
 ·rename_i q hq;cases h;exact⟨hw',Or.inr ⟨rfl,MU (t:=q.1) (z:=q.2) hq⟩,aR,aR,aR⟩
 ·split at h
  ·cases h
  ·rename_i q hq;cases h;have:=CX _ _ _ _ vC.nil hq;exact⟨hw',Or.inl rfl,this.qZ,this.yX,this.apart⟩
theorem FC:∀(f:Nat) (acc:List ni) (r:Bs) (l:List ni),(∀x∈acc,x.Ok)->acc.length<=8->jW f acc r=.ok l->(∀x∈l,x.Ok)/\l.length<=8
 |0,acc,r,l,ha,hl,h=>by rw[jW]at h;cases h;exact⟨ha,hl⟩
 |f+1,acc,r,l,ha,hl,h=>by
  rw[jW]at h;split at h
  ·cases h;exact⟨ha,hl⟩
  ·cases ho:o7 acc.length (iz r)with
   |error e=>rw[ho]at h;cases h
   |ok q =>
    obtain⟨x,r1⟩:=q;rw[ho]at h;obtain⟨h1,h2⟩:=Pf ho;simp only at h;refine FC f _ r1 l ?_ ?_ h
    ·intro y hy;rcases bQ.1 hy with g|g
     ·exact ha y g
     ·simp at g;subst g;exact h1
    ·simp;omega
theorem J7{l:List ni}(h:mq r=.ok l):(∀x∈l,x.Ok)/\l.length<=8:=by
 unfold mq at h;split at h
 ·cases h
 ·exact FC _ _ _ _ aR aR h
def QA(p:jn)(x:Bs):Bs:=p.1++61 :: x
def xf:List (jn×Bs)->Bs
 |[]=>[]
 |[p]=>QA p.1 p.2
 |p :: q :: l=>QA p.1 p.2++44 :: 32 :: xf (q :: l)
