/- Lemmas for the law's walk. -/
import Derived.Test.YtnckmcnffadjoaaGreatDoorPm5
import Derived.Test.YtnckmcnffadjoaaGreatDoorPm6
set_option maxRecDepth 100000
set_option maxHeartbeats 16000000
set_option linter.unusedSimpArgs false
namespace Go.Proofs.YtnckmcnffadjoaaGreatDoor
open Go.Proofs.Tryz
open Go.RowKit Go.Shelf
variable {x:aj} {w wc A B W:World} {k base:Nat} {pre ss:List aj} {v u:Value} {r z:Bs} {ps:List jz} {p:jz}
attribute [local go_sem] Oper.semAt_some
theorem Im(s sep:aj)(w:World) :
  aB 153 #[.string s,.string sep] w fun e w' =>
   e=.returned (.func (.func 234) #[] #[.pointer (some ⟨w.heap.size+1,0,none⟩),.pointer (some ⟨w.heap.size,0,none⟩),.pointer (some ⟨w.heap.size+2,0,none⟩)]) /\
   w'=((w.alloc (.cells #[.string s] 9)).alloc (.cells #[.string sep] 9)).alloc (.cells #[.int .i64 0] 3):=by
 have XS:aB 203 #[.string s,.string sep,.int .i64 0] w fun e w' =>
   e=.returned (.func (.func 234) #[] #[.pointer (some ⟨w.heap.size+1,0,none⟩),.pointer (some ⟨w.heap.size,0,none⟩),.pointer (some ⟨w.heap.size+2,0,none⟩)]) /\
   w'=((w.alloc (.cells #[.string s] 9)).alloc (.cells #[.string sep] 9)).alloc (.cells #[.int .i64 0] 3):=by
  go_enter func203,ntmps203;go_wp2;go_ret;exact⟨rfl,rfl⟩
 go_enter func153,ntmps153;go_wp2_with fail
 refine XS.mono ?_;rintro e w1⟨rfl,rfl⟩;go_wp2;go_ret;exact⟨rfl,rfl⟩
theorem U0(f:aI->Nat):∀(L:List (aI)) (l:aI),l∈L->f l<=(L.map f).sum
 |a :: L,l,h=>by
  simp only[cE,List.sum_cons];rcases bB.1 h with rfl|h
  ·omega
  ·have:=U0 f L l h;omega
theorem NC{c:UInt8}{s:aj}(h:x∈ja c s):x.size<=s.size:=by
 unfold ja at h;obtain⟨l,hl,rfl⟩:=b_.1 h;have h1:=AX c s.data.toList;have h2:l.length+1<=((ec c s.data.toList).map fun p=>p.length+1).sum:=U0 (fun p=>p.length+1) _ l hl;have h3:s.data.toList.length=s.size:=aR;show l.toArray.size<=_;simp only[aZ];omega
def ra:aj:=⟨#[97,98,99,100,101,102,103,104,105,106,107,108,109,110,111,112,113,114,115,116,117,118,119,120,121,122,48,49,50,51,52,53,54,55,56,57,45]⟩
theorem Fh:∀b∈ra.data.toList,b.toNat<128:=du
theorem KT:∀n:Fin 256,ra.data.toList.contains n.val.toUInt8=J_ n.val.toUInt8:=du
theorem BU(l:aI):l.all (ra.data.toList.contains ·)=l.all J_:=by
 congr 1;funext c
 have h:=KT ⟨c.toNat,c.toNat_lt⟩;simpa using h
def uC(s:aj):Bool:=Pu s.data.toList
def vX(w wc W:World):Prop:=W.heap[w.heap.size]?=some (.cells #[.bool false] 4 (0,0))/\Fr aS w W/\wc.heap.size<=W.heap.size
def KU(w wc:World)(pre:List aj)(W:World):Prop:=(∀p∈pre,C4 p.data.toList=true)/\vX w wc W
def U1(w wc:World)(pre:List aj)(W:World):Prop:=(∃p∈pre,C4 p.data.toList=false)/\vX w wc W
theorem vX.fr(hz:wc.heap.size=w.heap.size+4)(h:vX w wc A)(hf:Fr (DG (w.heap.size+1) wc.heap.size) A B):vX w wc B :=
 ⟨hf.keep h.1 (by unfold DG;omega),h.2.1.step hf (fun j hj hk=>by unfold DG at hk;omega),aG h.2.2 hf.size⟩
theorem vX.grow(h:vX w wc A)(hf:Fr aS A B):vX w wc B:=⟨hf.keep h.1 id,h.2.1.trans hf,aG h.2.2 hf.size⟩
theorem vX.put(h:vX w wc A):vX w wc (A.setCell ⟨w.heap.size,0,none⟩ (.bool false)) :=
 ⟨by simp[World.setCell,Array.getElem?_modify,h.1],h.2.1.gJ (p:=⟨w.heap.size,0,none⟩) (ay _) _,by simpa[World.setCell]using h.2.2⟩
theorem Fr.others(h:Fr aS A B):KeepsOthers A B:=⟨h.size,fun _ _ hk _=>h.keep hk id⟩
theorem Fr.adJ(h:Fr aS A B)(hk:k+3<=A.heap.size):vW k A B:=fun j _ h2=>h.block j ab id
theorem U2(h:KU w wc pre W)(hx:C4 x.data.toList=false)(A:World)(hA:Fr aS W A)(aa:Act) :
  Nx (w.heap.size+1) (KU w wc) (U1 w wc) (pre++[x]) W .ret aa (A.setCell ⟨w.heap.size,0,none⟩ (.bool false)) :=
 ⟨hA.others.trans (KeepsOthers.setCell A _ _),⟨x,aR,hx⟩,(h.2.grow hA).put⟩
theorem Rp(hz:wc.heap.size=w.heap.size+4)(h:KU w wc pre W)(hx:C4 x.data.toList=true)(A:World)(hA:Fr aS W A)(aa:Act) :
  Nx (w.heap.size+1) (KU w wc) (U1 w wc) (pre++[x]) W .normal aa A :=
 ⟨hA.others,hA.adJ (by have:=h.2.2.2;omega),fun p hp=>by
  rcases bR.1 hp with hp|hp
  ·exact h.1 p hp
  ·rw[df]at hp;subst hp;exact hx,h.2.grow hA⟩
theorem U3(s:aj)(w:World)(hs:s.size<100000) :
  aB 92 #[.string s] w fun e w'=>e=.returned (.bool (uC s))/\Fr aS w w':=by
 by_cases h60:60<s.size
 ·have i60:(60:Int)<(s.size:Int):=ab;have HT:=O (show uC s=false by unfold uC Pu;rw[bD (by simpa using h60)];rfl);go_enter func92,ntmps92;go_wp2;refine aU (v:=.bool false) ?_ rfl ⟨by rw[HT.o],?_⟩
  ·simp[results,Tryz.f92,go_sem]
  ·first|exact(ae aS w).alloc _|exact((ae aS w).alloc _).gJ (p:=⟨w.heap.size,0,none⟩) (ay _) _
 ·have i60:¬(60:Int)<(s.size:Int):=ab;obtain⟨wb,j6⟩:∃wb,wb=w.alloc (.cells #[.bool false] 4):=⟨_,rfl⟩;have hzb:wb.heap.size=w.heap.size+1:=by rw[j6];simp
  have ks:Fr aS w wb:=by rw[j6];exact(ae aS w).alloc _
  have ND:wb.heap[w.heap.size]?=some (.cells #[.bool false] 4 (0,0)):=by rw[j6];exact aC _ _
  obtain⟨wc,hwc⟩:∃wc,wc=((wb.alloc (.cells #[.string s] 9)).alloc (.cells #[.string ⟨#[46]⟩] 9)).alloc (.cells #[.int .i64 0] 3):=⟨_,rfl⟩;have hfc:Fr aS wb wc:=by rw[hwc];exact(((ae aS wb).alloc _).alloc _).alloc _
  have hzc:wc.heap.size=w.heap.size+4:=by rw[hwc];simp[hzb]
  have hc0:wc.heap[w.heap.size+1]?=some (.cells #[.string s] 9 (0,0)):=by
   rw[hwc, <-hzb];exact(((ae aS _).alloc _).alloc _).keep (aC wb _) id
  have pA:wc.heap[w.heap.size+1+1]?=some (.cells #[.string ⟨#[46]⟩] 9 (0,0)):=by
   rw[hwc, <-hzb];have:=((ae aS _).alloc (.cells #[.int .i64 0] 3)).keep (aC (wb.alloc (.cells #[.string s] 9)) (.cells #[.string ⟨#[46]⟩] 9)) id;simpa using this
  have sr:wc.heap[w.heap.size+1+2]?=some (.cells #[.int .i64 0] 3 (0,0)):=by
   rw[hwc, <-hzb];have:=aC ((wb.alloc (.cells #[.string s] 9)).alloc (.cells #[.string ⟨#[46]⟩] 9)) (.cells #[.int .i64 0] 3);simpa using this
  have HSS:=O ((Im s ⟨#[46]⟩ wb).mono (R':=fun e w'=>e=.returned (.func (.func 234) #[] #[.pointer (some ⟨w.heap.size+1+1,0,none⟩),.pointer (some ⟨w.heap.size+1,0,none⟩),.pointer (some ⟨w.heap.size+1+2,0,none⟩)])/\wc=w') (fun e w' h=>by rw[hzb, <-hwc]at h;exact⟨h.1,h.2.symm⟩));have qV:=O j6;clear j6 hwc;refine(callsIn_wide (n:=5)).1 ?_;refine callsIn_of_wp_marks func92 rfl trivial ?_ rfl
  simp only[ntmps92,aZ,List.length_cons,List.length_nil,Nat.reduceAdd,Nat.reduceSub,Array.replicate_succ,Array.replicate_zero,List.push_toArray,List.append_toArray,List.nil_append,List.cons_append]
  gi_wp2_with fail
  rw[<-qV.o];refine⟨trivial,?_⟩;refine(callsIn_wide.2 HSS.o).mono ?_;rintro e u⟨rfl,rfl⟩;gi_wp2;have hkc:=hfc.keep ND id;have ah2:=ks.trans hfc;have adL:=O (show uC s=(ja 46 s).all (fun p=>C4 p.data.toList)by
   unfold uC Pu ja;rw[bM (by simpa using Nat.le_of_not_lt h60),Bool.true_and,List.all_map];rfl)
  refine AW rfl ag (gf:=234) (lb:= #[.pointer (some ⟨w.heap.size+1+1,0,none⟩),.pointer (some ⟨w.heap.size+1,0,none⟩),.pointer (some ⟨w.heap.size+1+2,0,none⟩)]) rfl trivial (enters_of func234 af rfl)
   (enc:=fun x:aj=>Value.string x) (k:=w.heap.size+1) (ys:=ja 46 s) ab (Cn s (w.heap.size+1) 4 wc ag hs hc0 pA sr) rfl
   (KU w wc) (U1 w wc) (fun xs A B h f=>⟨h.1,h.2.fr hzc f⟩) (fun xs A B h f=>⟨h.1,h.2.fr hzc f⟩) ⟨(fun p hp=>by cases hp),hkc,ah2,ay _⟩
   (fun x=>{tmps:= #[.string s,undef,.pointer (some ⟨w.heap.size,0,none⟩),.string x,.string s,.int .i64 s.size,.bool false,.string s,.func (.func 234) #[] #[.pointer (some ⟨w.heap.size+1+1,0,none⟩),.pointer (some ⟨w.heap.size+1,0,none⟩),.pointer (some ⟨w.heap.size+1+2,0,none⟩)],.string x,undef,undef,undef,undef,undef,undef,undef,undef,undef,undef,undef,undef,undef,undef,undef,undef,undef,undef,undef,undef],defers:=[]}) ?assign ?body ?done ?stop
  case assign =>
   intro l x W K hK;gi_wp2;exact hK
  case body =>
   intro l pre x W hi hxp;have hxz:x.size<=s.size:=NC (hxp.subset aR);clear hxp;have Gh:=O (fun hx=>Rp (x:=x) hzc hi hx);have Cl:=O (fun hx=>U2 (x:=x) hi hx);obtain⟨_,hr,_,_⟩:=hi;have HR:=O hr;have c0:W.cell? ⟨w.heap.size,0,none⟩=some (.bool false):=by simp[World.cell?,hr]
   have c1:W.frozen? ⟨w.heap.size,0,none⟩=false:=by simp[World.frozen?,hr]
   clear hr ND hkc hc0 pA sr ks hfc ah2 hzb HSS qV adL;by_cases Ip:x.size=0
   ·have hl:C4 x.data.toList=false:=by
     have:x.data.toList=[]:=by apply cj;simpa using Ip
     rw[this];rfl
    have hem:x.toList=[]:=by rw[aO];apply cj;simpa using Ip
    have au2:x.toList.isEmpty=true:=by rw[hem];rfl
    have HB:=O (Cl.o hl);clear hl Cl Gh;gi_wp2;refine⟨trivial,?_⟩;gi_wp2;exact HB.o W (ae _ _) _
   ·obtain⟨m,hm⟩:∃m,x.size=m+1:=⟨x.size-1,ab⟩;have hne:¬x.toList=[]:=by rw[aO];intro h;apply Ip;have:=ar List.length h;simpa using this
    have U4:x.toList.isEmpty=false:=by simpa using hne
    have HEM:=O (show x.data.toList.isEmpty=false by rw[<-aO];exact U4);have HH0:=O (show x.data.toList.head?=some (x[0]'ab)by rw[List.head?_eq_getElem?];exact byte_at x 0 ab);have HHL:=O (show x.data.toList.getLast?=some (x[m]'ab)by
     rw[List.getLast?_eq_getElem?]
     have:x.data.toList.length-1=m:=by have:x.data.toList.length=x.size:=by simp
                                       omega
     rw[this];exact byte_at x m ab)
    have hm1:((x.size:Nat):Int)-1=(m:Int):=ab;have Jw:(m:Int)<(x.size:Int):=ab;have hm3:(0:Int)<=(m:Int):=ab;have hm4:m<x.size:=ab;have hm5:0<x.size:=ab;have hm6:(0:Int)<(x.size:Int):=ab;have U5:∀c:UInt8,c=45↔(c.toNat:Int)=45:=fun c=>by
     constructor
     ·rintro rfl;rfl
     ·intro h;exact UInt8.toNat.inj (by have:(45:UInt8).toNat=45:=rfl;omega)
    by_cases Zu:x[0]'ab=45
    ·have i0:(((x[0]'ab).toNat:Int)==45)=true:=dW.2 ((U5 _).1 Zu);have i0':((x[0]'ab).toNat:Int)=45:=(U5 _).1 Zu;have HB:=O (Cl.o (by unfold C4;rw[HH0.o,Zu];simp));clear Cl Gh HEM HH0 HHL U5 Zu;gi_wp2;refine⟨trivial,?_⟩;gi_wp2;exact HB.o W (ae _ _) _
    ·have i0:(((x[0]'ab).toNat:Int)==45)=false:=aL.2 (fun h=>Zu ((U5 _).2 h));have i0':¬((x[0]'ab).toNat:Int)=45:=fun h=>Zu ((U5 _).2 h);by_cases g45:x[m]'ab=45
     ·have i1:(((x[m]'ab).toNat:Int)==45)=true:=dW.2 ((U5 _).1 g45);have i1':((x[m]'ab).toNat:Int)=45:=(U5 _).1 g45;have HB:=O (Cl.o (by unfold C4;rw[HHL.o,g45];simp));clear Cl Gh HEM HH0 HHL U5 g45 Zu;gi_wp2;refine⟨trivial,?_⟩;gi_wp2;exact HB.o W (ae _ _) _
     ·have i1:(((x[m]'ab).toNat:Int)==45)=false:=aL.2 (fun h=>g45 ((U5 _).2 h));have i1':¬((x[m]'ab).toNat:Int)=45:=fun h=>g45 ((U5 _).2 h);have xe:=O (show C4 x.data.toList=x.data.toList.all J_ by
       unfold C4;rw[HEM.o,HH0.o,HHL.o,show(some (x[0]'ab)==some 45)=false by simpa using Zu,show(some (x[m]'ab)==some 45)=false by simpa using g45];rfl)
      have HTR:=O (sy x ra W ab ag ag Fh);clear HEM HH0 HHL U5 g45 Zu
      gi_wp2_with fail
      refine⟨trivial,?_⟩;refine(CallsIn.inRound l (callsIn_wide.2 HTR.o)).mono ?_;rintro e u⟨rfl,yg⟩;cases iX:x.data.toList.all J_
      ·have Pv:Lib.trimS x.data.toList ra.data.toList≠ []:=fun h=>by rw[wQ,BU,iX]at h;cases h
       have t1:¬(⟨(Lib.trimS x.data.toList ra.data.toList).toArray⟩:aj).toList=[]:=by rw[aO];simpa using Pv
       have t2:(⟨(Lib.trimS x.data.toList ra.data.toList).toArray⟩:aj).toList.isEmpty=false:=by simpa using t1
       have HB:=O (Cl.o (xe.o.trans iX));have QV:=yg.keep HR.o id;have d0:u.cell? ⟨w.heap.size,0,none⟩=some (.bool false):=by simp[World.cell?,QV]
       have d1:u.frozen? ⟨w.heap.size,0,none⟩=false:=by simp[World.frozen?,QV]
       clear Pv iX Cl Gh xe HTR c0 c1;generalize (⟨(Lib.trimS x.data.toList ra.data.toList).toArray⟩:aj)=z at *
       gi_wp2;exact HB.o u yg _
      ·have Pv:Lib.trimS x.data.toList ra.data.toList=[]:=by rw[wQ,BU,iX]
       rw[Pv];have HG:=O (Gh.o (xe.o.trans iX));clear Pv iX Cl Gh xe HTR;gi_wp2;exact HG.o u yg _
  case done =>
   rintro D W rfl⟨iX,hw⟩hd;have c0:W.cell? ⟨w.heap.size,0,none⟩=some (.bool false):=by simp[World.cell?,hw.1]
   have c1:W.frozen? ⟨w.heap.size,0,none⟩=false:=by simp[World.frozen?,hw.1]
   have HT:=O (show uC s=true by rw[adL.o,gB];exact iX);have HF:=O hw.2.1;clear hw;gi_wp2;have sM:=(KeepsOthers.setCell W ⟨w.heap.size,0,none⟩ (.bool true)).same _ _ hd rfl;refine⟨aR,.inl ⟨_,_,rfl,run_takeDeferred sM,?_⟩⟩
   have uh:=cell_kept (World.cell?_setCell_same' W ⟨w.heap.size,0,none⟩ (.bool true) (by rw[c0];rfl)) (grownBy_putObj' _ wc.heap.size (.deferred none)) (fun r e=>by cases e;exact⟨_,sM,rfl⟩);refine⟨.bool true,?_,by rw[HT.o],(HF.o.gJ (p:=⟨w.heap.size,0,none⟩) (ay _) _).putObj (fun hl=>ab) _⟩;simp[results,Tryz.f92,go_sem,uh]
  case stop =>
   rintro D xs W rfl hxs⟨⟨p,hp,hlp⟩,hw⟩hd;have HT:=O (show uC s=false by rw[adL.o,jh];exact⟨p,hxs.subset hp,by simp[hlp]⟩);have c0:W.cell? ⟨w.heap.size,0,none⟩=some (.bool false):=by simp[World.cell?,hw.1]
   have HF:=O hw.2.1;clear hw;gi_wp2;refine⟨aR,.inl ⟨_,_,rfl,run_takeDeferred hd,?_⟩⟩;have uh:=cell_kept c0 (grownBy_putObj' _ wc.heap.size (.deferred none)) (fun r e=>by cases e;exact⟨_,hd,rfl⟩);refine⟨.bool false,?_,by rw[HT.o],HF.o.putObj (fun hl=>ab) _⟩;simp[results,Tryz.f92,go_sem,uh]
def nW(o:gA):Bool:=ac5 ⟨o.aE,o.host.data.toList,o.port⟩
theorem Gi(o:gA)(w:World)(hs:o.host.size<100000) :
  aB 46 #[.agg o.cells.toArray] w fun e w'=>e=.returned (.bool (nW o))/\Fr aS w w':=by
 obtain⟨sec,host,port⟩:=o;unfold gA.cells;have HR:=O (show nW ⟨sec,host,port⟩=(uC host&&(decide (1<=port)&&decide (port<=65535)))from rfl);obtain⟨wb,j6⟩:∃wb,wb=w.alloc (.cells #[.bool sec,.string host,.int .i64 port] 32):=⟨_,rfl⟩;have ks:Fr aS w wb:=by rw[j6];exact(ae aS w).alloc _
 have mf:wb.heap[w.heap.size]?=some (.cells #[.bool sec,.string host,.int .i64 port] 32 (0,0)):=by rw[j6];exact aC _ _
 have qV:=O j6;clear j6;go_enter func46,ntmps46;go_wp2_with fail
 rw[<-qV.o];refine(U3 host wb hs).mono ?_;rintro e u⟨rfl,yg⟩;have rZ:=yg.keep mf id;have c2:u.cell? ⟨w.heap.size,2,none⟩=some (.int .i64 port):=by simp[World.cell?,rZ]
 generalize uC host=b at *
 cases b
 ·go_wp2;go_ret;exact⟨by rw[HR.o];rfl,ks.trans yg⟩
 ·by_cases h1:1<=port
  ·have d1:decide (1<=port)=true:=bM h1;go_wp2;go_ret;exact⟨by rw[HR.o,d1];rfl,ks.trans yg⟩
  ·have d1:decide (1<=port)=false:=bD h1;go_wp2;go_ret;exact⟨by rw[HR.o,d1];rfl,ks.trans yg⟩
open Go.RowKit
theorem rN(base:Nat)(v:Value)(ss:List aj)(w:World)(h:dv base w v ss) :
  aB 115 #[v] w fun e w'=>∃a c,e=.returned (.slice a ss.length c)/\dv base w' (.slice a ss.length c) ss/\Fr aS w w':=by
 have hl:=h.tP;rcases h.rd with ⟨a,c,rfl,rfl,_⟩|⟨bk,o,c,rfl,h1,h2,h3,h4⟩
 ·cases a with
  |none=>exact(slices_Clone_string_nil 0 c w).mono fun e w' ⟨he,hw⟩=>⟨none,0,he,dv.nil _ _,hw▸ae _ _⟩
  |some a =>
   refine(slices_Clone_string_zero a c w).mono fun e w' ⟨v',he,ho,_,hb⟩=>?_;have hs:Strs w.heap.size w' v' []:=ho;obtain⟨a',c',hv⟩:=hs.form;exact⟨a',c',by rw[he,hv],by rw[<-hv];exact hs.in hl,fk hb⟩
 ·refine(slices_Clone_string bk o ss.length c ss w (ay _) ab (fun j hj=>h4 j _ (by simp[List.getD,hj]))).mono fun e w' ⟨v',he,ho,_,hb⟩=>?_;rw[aD (ay _)]at ho;have hs:Strs w.heap.size w' v' ss:=ho;obtain⟨a',c',hv⟩:=hs.form;exact⟨a',c',by rw[he,hv],by rw[<-hv];exact hs.in hl,fk hb⟩
def U9(base:Nat)(m:aP bE)(w:World)(e:Ending)(w':World):Prop :=
 ∃r:aP Value,e=.returned (.agg r.cells.toArray)/\r.Reads (dv base w') m/\(∀u∈r.cells,u.oneCell'=true)/\Fr aS w w'
theorem Gk{r:aP Value}{a b:eV}{n m c d:Nat}(h1:r.a.dom=.slice a n c)(h2:r.paths=.slice b m d):∀u∈r.cells,u.oneCell'=true:=by
 intro u hu;simp only[aP.cells,bB,cz,dX]at hu;rcases hu with rfl|rfl|rfl|rfl|rfl|rfl|rfl|rfl|rfl|rfl|rfl|rfl|rfl|rfl|rfl|rfl<;>first|rfl|(rw[h1];rfl)|(rw[h2];rfl)
theorem uE(base:Nat)(g:aP Value)(m:aP bE)(w:World)(iE:base<=w.heap.size)(h:g.Reads (dv base w) m) :
  aB 93 #[.agg g.cells.toArray] w (U9 base m w):=by
 have hpi:=h.2.2.2.2.2.2;have hdi:=h.2.2.2.2.1.2.2.2.2.2.2.2;have H:=O h;clear h;unfold aP.cells;obtain⟨ad,cd,hd⟩:=hdi.rd.form;obtain⟨ap,cp,hp⟩:=hpi.rd.form;rw[hp]at hpi;rw[hd]at hdi;rw[hd,hp];clear hd hp;go_enter func93,ntmps93;go_wp2_with fail
 have pd:Fr aS w _:=((ae aS w).alloc (.cells #[.bool g.o.aE,.string g.o.host,.int .i64 g.o.port,.bool g.proxy,.string g.user,.string g.pass,.int .i64 g.a.scheme,.string g.a.aK,.string g.a.bq,.string g.a.cy,.bool g.a.cA,.string g.a.eH,.bool g.a.cN,.slice ad m.a.dom.length cd,.int .i64 g.count,.slice ap m.paths.length cp] 114)).alloc (.cells eS 114)
 have b0:=Below.heap_alloc (w.alloc (.cells #[.bool g.o.aE,.string g.o.host,.int .i64 g.o.port,.bool g.proxy,.string g.user,.string g.pass,.int .i64 g.a.scheme,.string g.a.aK,.string g.a.bq,.string g.a.cy,.bool g.a.cA,.string g.a.eH,.bool g.a.cN,.slice ad m.a.dom.length cd,.int .i64 g.count,.slice ap m.paths.length cp] 114)) (.cells eS 114) w.heap.size aR;rw[aC]at b0
 have b1:=aC (w.alloc (.cells #[.bool g.o.aE,.string g.o.host,.int .i64 g.o.port,.bool g.proxy,.string g.user,.string g.pass,.int .i64 g.a.scheme,.string g.a.aK,.string g.a.bq,.string g.a.cy,.bool g.a.cA,.string g.a.eH,.bool g.a.cN,.slice ad m.a.dom.length cd,.int .i64 g.count,.slice ap m.paths.length cp] 114)) (.cells eS 114)
 rw[show(w.alloc (.cells #[.bool g.o.aE,.string g.o.host,.int .i64 g.o.port,.bool g.proxy,.string g.user,.string g.pass,.int .i64 g.a.scheme,.string g.a.aK,.string g.a.bq,.string g.a.cy,.bool g.a.cA,.string g.a.eH,.bool g.a.cN,.slice ad m.a.dom.length cd,.int .i64 g.count,.slice ap m.paths.length cp] 114)).heap.size=w.heap.size+1 from aR]at b1
 generalize (w.alloc (.cells _ 114)).alloc _=W at pd b0 b1;have hpi:=hpi.dm pd;have hdi:=hdi.dm pd;refine(rN base _ m.paths W hpi).mono ?_;rintro e u1⟨a1,c1,rfl,Cf,dr⟩;have Tv:=dr.keep b0 id;have U_:=dr.keep b1 id;have ah8:=hdi.dm dr;have adO:=pd.trans dr;have c13:u1.cell? ⟨w.heap.size,13,none⟩=some (.slice ad m.a.dom.length cd):=by simp[World.cell?,Tv]
 have c15:u1.cell? ⟨w.heap.size,15,none⟩=some (.slice ap m.paths.length cp):=by simp[World.cell?,Tv]
 have f15:u1.frozen? ⟨w.heap.size,15,none⟩=false:=by simp[World.frozen?,Tv]
 clear pd b0 b1 dr hpi hdi;have hlw:w.heap.size<=u1.heap.size:=adO.size;go_wp2_with fail
 have dB:=adO.gJ (p:=⟨w.heap.size,15,none⟩) (ay _) (.slice a1 m.paths.length c1);have b0:=cg Tv 15 (.slice a1 m.paths.length c1);have b1:=(tj (w:=u1) (b:=w.heap.size) (g:=w.heap.size+1) ab 15 (.slice a1 m.paths.length c1)).trans U_;have rO:rY base u1 (one w.heap.size):=by
  rintro k rfl hk;exact⟨iE,fun c f e=>by rw[Tv]at e;cases e⟩
 have kH:Fr (one w.heap.size) u1 (u1.setCell ⟨w.heap.size,15,none⟩ (.slice a1 m.paths.length c1)):=(ae (one w.heap.size) u1).setCell (p:=⟨w.heap.size,15,none⟩) (fun _=>rfl) _;have ML:=Cf.fr kH rO;have sI:=ah8.fr kH rO;clear Cf ah8 rO kH Tv U_ adO c13 c15 f15;generalize u1.setCell ⟨w.heap.size,15,none⟩ (.slice a1 m.paths.length c1)=U at *
 refine(rN base _ m.a.dom U sI).mono ?_;rintro e u2⟨a2,c2,rfl,T7,iz⟩
 have Tv:u2.heap[w.heap.size]?=some (.cells #[.bool g.o.aE,.string g.o.host,.int .i64 g.o.port,.bool g.proxy,.string g.user,.string g.pass,.int .i64 g.a.scheme,.string g.a.aK,.string g.a.bq,.string g.a.cy,.bool g.a.cA,.string g.a.eH,.bool g.a.cN,.slice ad m.a.dom.length cd,.int .i64 g.count,.slice a1 m.paths.length c1] 114 (0,0)):=iz.keep b0 id;have U_:=iz.keep b1 id;have hs4:=ML.dm iz
 have HF:=dB.trans iz;have c13:u2.cell? ⟨w.heap.size,13,none⟩=some (.slice ad m.a.dom.length cd):=by simp[World.cell?,Tv]
 have f13:u2.frozen? ⟨w.heap.size,13,none⟩=false:=by simp[World.frozen?,Tv]
 have b2:(u2.setCell ⟨w.heap.size,13,none⟩ (.slice a2 m.a.dom.length c2)).heap[w.heap.size]?=some (.cells #[.bool g.o.aE,.string g.o.host,.int .i64 g.o.port,.bool g.proxy,.string g.user,.string g.pass,.int .i64 g.a.scheme,.string g.a.aK,.string g.a.bq,.string g.a.cy,.bool g.a.cA,.string g.a.eH,.bool g.a.cN,.slice a2 m.a.dom.length c2,.int .i64 g.count,.slice a1 m.paths.length c1] 114 (0,0)):=cg Tv 13 (.slice a2 m.a.dom.length c2)
 have b3:=(tj (w:=u2) (b:=w.heap.size) (g:=w.heap.size+1) ab 13 (.slice a2 m.a.dom.length c2)).trans U_;have rO:rY base u2 (one w.heap.size):=by
  rintro k rfl hk;exact⟨iE,fun c f e=>by rw[Tv]at e;cases e⟩
 have kH:Fr (one w.heap.size) u2 (u2.setCell ⟨w.heap.size,13,none⟩ (.slice a2 m.a.dom.length c2)):=(ae (one w.heap.size) u2).setCell (p:=⟨w.heap.size,13,none⟩) (fun _=>rfl) _;have hs5:=hs4.fr kH rO;have hd5:=T7.fr kH rO;have f_:=HF.gJ (p:=⟨w.heap.size,13,none⟩) (ay _) (.slice a2 m.a.dom.length c2);have B2:=O b2;have B3:=O b3;clear b0 b1 Tv U_ b2 b3 rO kH hs4 ML sI T7 HF dB iz
 have mM:(#[.bool g.o.aE,.string g.o.host,.int .i64 g.o.port,.bool g.proxy,.string g.user,.string g.pass,.int .i64 g.a.scheme,.string g.a.aK,.string g.a.bq,.string g.a.cy,.bool g.a.cA,.string g.a.eH,.bool g.a.cN,.slice a2 m.a.dom.length c2,.int .i64 g.count,.slice a1 m.paths.length c1]:bS).all (·.oneCell')=true:=bX (Gk (r:={g with a:={g.a with dom:=.slice a2 m.a.dom.length c2},paths:=.slice a1 m.paths.length c1}) rfl rfl)
 have MU:=O mM;clear mM;go_wp2_with (first|((with_reducible refine di 13 ?_);refine aH rfl 114 (.tmp 1) rfl w.heap.size rfl _ _ (0,0) _ B2.o underlying114 rfl af ?_)|((with_reducible refine cW 114 ?_);refine aF rfl 114 (.tmp 2) (.tmp 13) rfl (w.heap.size+1) _ rfl rfl _ eS B3.o af rfl MU.o ?_)|fail)
 have rO:rY base (u2.setCell ⟨w.heap.size,13,none⟩ (.slice a2 m.a.dom.length c2)) (one (w.heap.size+1)):=by
  rintro k rfl hk;exact⟨ab,fun c f e=>by rw[B3.o]at e;cases e⟩
 generalize (u2.setCell ⟨w.heap.size,13,none⟩ (.slice a2 m.a.dom.length c2))=V at *
 have kH:Fr (one (w.heap.size+1)) V (V.setRow (w.heap.size+1) #[.bool g.o.aE,.string g.o.host,.int .i64 g.o.port,.bool g.proxy,.string g.user,.string g.pass,.int .i64 g.a.scheme,.string g.a.aK,.string g.a.bq,.string g.a.cy,.bool g.a.cA,.string g.a.eH,.bool g.a.cN,.slice a2 m.a.dom.length c2,.int .i64 g.count,.slice a1 m.paths.length c1]):=(ae (one (w.heap.size+1)) V).setRow (fun _=>rfl) _
 refine aU (bu bC _ _ (w.heap.size+1) 114 #[.bool g.o.aE,.string g.o.host,.int .i64 g.o.port,.bool g.proxy,.string g.user,.string g.pass,.int .i64 g.a.scheme,.string g.a.aK,.string g.a.bq,.string g.a.cy,.bool g.a.cA,.string g.a.eH,.bool g.a.cN,.slice a2 m.a.dom.length c2,.int .i64 g.count,.slice a1 m.paths.length c1] (0,0) _ rfl (aY V (w.heap.size+1) _ _ _ _ B3.o) underlying114 rfl af) rfl ?_
 obtain⟨h1,h2,h3,h4,⟨k1,k2,k3,k4,k5,k6,k7,_⟩,h6,_⟩:=H.o;exact⟨{g with a:={g.a with dom:=.slice a2 m.a.dom.length c2},paths:=.slice a1 m.paths.length c1},rfl,⟨h1,h2,h3,h4,⟨k1,k2,k3,k4,k5,k6,k7,hd5.fr kH rO⟩,h6,hs5.fr kH rO⟩,Gk rfl rfl,f_.setRow (fun h=>absurd h ab) _⟩
def aef(b:Nat)(w:World)(bk cap:Nat)(p:aX->Bool)(xs:cZ)(i j:Value)(wr:World):Prop :=
 ∃(m n:Nat) (ys:cZ),i=.int .i64 m/\j=.int .i64 n/\m<n/\n<=xs.length/\ys.length=xs.length/\OwnRows b 155 12 wr (.slice (some ⟨bk,0,none⟩) xs.length cap) ys /\
  ys.take m=(xs.take n).filter (fun x=>!p x)/\ys.drop n=xs.drop n/\Fr (one bk) w wr
theorem zM{p:aX->Bool}:∀ {l:cZ} (i:Nat),l.any p=true->∃k x,l[k]?=some x/\p x=true/\(l.take k).any p=false/\lU p l i=((i+k:Nat):Int)
 |[],_,h=>by simp at h
 |a :: l,i,h=>by
  cases ha:p a
  ·rw[List.any_cons,ha,jM]at h;obtain⟨k,x,h1,h2,h3,h4⟩:=zM (i+1) h;refine⟨k+1,x,by simpa using h1,h2,by simp[ha,h3],?_⟩;rw[lU,ha];simp only[cJ,eW];rw[h4];congr 1;omega
  ·exact⟨0,a,rfl,ha,rfl,by rw[lU,ha];simp⟩
theorem zN{p:aX->Bool}{l:cZ}(h:l.any p=false):l.filter (fun x=>!p x)=l:=by
 rw[List.filter_eq_self];intro a ha;have:=eY.1 h a ha;simpa using this
theorem pW(b:Nat)(g:Nat)(cap:bS)(p:aX->Bool)(v:Value)(xs:cZ)(w:World)(eg:∀args w,(callFunc g args).run prog w=.ok (.enter g args) w)(hp:gP (own v) w g cap p xs)(hv:OwnRows b 155 12 w v xs) :
  aB 135 #[v,.func (.func g) #[] cap] w fun e w'=>∃a c,e=.returned (.slice a (xs.filter (fun x=>!p x)).length c)/\OwnRows b 155 12 w' (.slice a (xs.filter (fun x=>!p x)).length c) (xs.filter (fun x=>!p x))/\Fr (own v) w w'/\own (.slice a (xs.filter (fun x=>!p x)).length c)=own v:=by
 cases jk:xs.any p
 ·have rP:=O (kt (i:=0) jk);rw[zN jk];obtain⟨av,cv,fJ⟩:=hv.form;subst fJ;go_enter func135,ntmps135;go_wp2_with fail
  refine(uF g cap p _ xs w eg hp.none hv.at).mono ?_;rintro e w1⟨rfl,dr⟩;rw[rP.o];go_wp2;go_ret;exact⟨_,_,rfl,hv.fr dr (fun _ _ h=>h),dr.mono (fun _ _ h=>absurd h id),rfl⟩
 ·obtain⟨k0,x0,Ip,DU,vp,rP⟩:=zM 0 jk;rw[bw]at rP;have QV:=(List.getElem?_eq_some_iff.1 Ip).1;obtain⟨bk,cp,KS⟩:∃bk cp,v=.slice (some ⟨bk,0,none⟩) xs.length cp:=by
   rcases hv.2.2 with ⟨_,hn⟩|⟨bk,cp,cur,hv,_⟩
   ·omega
   ·exact⟨bk,cp,hv⟩
  subst KS;obtain⟨Cj,cur,se,q1,q2,q3,q4,q5,q6⟩:=hv.open (g:=bk) rfl;cases se;unfold maxLen at q4;have eb:=O hv.1;have DV:=O (show xs.take k0=(xs.take (k0+1)).filter (fun x=>!p x)by
   rw[dZ Ip,cG,zN vp];simp[DU])
  have HP:=O hp;have Zy:=O rP;clear jk vp Ip DU rP q2 q5 q6 hp;go_enter func135,ntmps135;go_wp2_with fail
  refine(uF g cap p _ xs w eg HP.o.none hv.at).mono ?_;rintro e w1⟨rfl,dr⟩;rw[Zy.o];have EZ:=hv.fr dr (fun _ _ h=>h);have Jz:((k0:Int)== -1)=false:=by rw[aL];omega
  go_wp2;go_loopw[5,6] (aef b w bk cp p xs) (fun _ j _=>xs.length-(intOf j).toNat)
  case atStart=>exact⟨k0,k0+1,xs,rfl,bg,ab,ab,rfl,EZ,DV.o,rfl,dr.mono (fun _ _ h=>absurd h id)⟩
  case round =>
   obtain⟨m,n,ys,rfl,rfl,hmn,hn,hlen,cR,rE,sO,cL⟩:=hrel;have HT:=O rE;have HD:=O sO;have jS:=O hlen;clear rE sO hlen;rw[<-jS.o]at cR;have rQ:=cR.at;by_cases fo:n<xs.length
   ·rcases rQ.2 with ⟨_,_,_,e,_⟩|⟨Jy,of,c,hf,h1,h2,h3,h4⟩
    ·have hl:=jS.o;rw[e]at hl;simp at hl;omega
    ·cases hf;have dT:=O (List.getElem?_eq_getElem fo);have yj:ys[n]?=some xs[n]:=by
      have e:=ar (fun l:cZ=>l[0]?) HD.o;simp only[List.getElem?_drop,Nat.add_zero]at e;rw[e,dT.o]
     have hcell:=h4 n _ yj;simp only[bw]at hcell;have iD:=O (bN fo);generalize xs[n]=x at dT hcell iD yj;have lB:=(eb.o x iD.o).1;have mM:=O (eb.o x iD.o).2;have ir:=fun W=>run_storeCells_new (P:=prog) W 155 #[.bool false,.string ⟨#[]⟩,.int .i64 0,.bool false,.string ⟨#[]⟩,.int .i64 0,.string ⟨#[]⟩,.string ⟨#[]⟩,.bool false,.string ⟨#[]⟩,.string ⟨#[]⟩,.int .i64 0] x (by rw[lB];rfl) mM.o
     have gS:Fr aS wr (wr.alloc (.cells x.toArray 155)):=(ae aS wr).alloc _;have fD:=O (HP.o x iD.o (wr.alloc (.cells x.toArray 155)) ((cL.alloc _).mono (fun k _ h=>by have e:k=bk:=h;rw[e];rfl)));have Iw:=O (Ba lB);have jq:=cL.alloc (.cells x.toArray 155);have fC:=cR.fr gS (fun _ _ h=>h);have qk:(wr.alloc (.cells x.toArray 155)).heap[wr.heap.size]?=some (.cells x.toArray 155 (0,0)):=aC _ _
     have tR:=O qk;clear h4 yj qk gS;go_wp2_with (first|((with_reducible refine di 25 ?_);refine a_ rfl 155 (.tmp 24) rfl bk (n*12) rfl x _ hcell underlying155 rfl Iw.o ?_)|((with_reducible refine di 27 ?_);refine aH rfl 155 (.tmp 7) rfl wr.heap.size rfl _ x.toArray (0,0) _ tR.o underlying155 rfl (by rw[aZ];exact Iw.o) ?_)|fail)
     have hlw:wr.heap.size<(wr.alloc (.cells x.toArray 155)).heap.size:=aR;clear ir hcell;generalize wr.alloc (.cells x.toArray 155)=W2 at *
     refine fD.o.mono ?_;rintro e w3⟨rfl,iz⟩;have qD:=jq.trans (iz.mono (fun _ _ h=>absurd h id));have fu:=fC.fr iz (fun _ _ h=>h);have tu:=O (iz.keep tR.o id);have NL:=O jS.o;cases qF:p x
     ·have X3:=O (fu.there (g:=bk) (cap:=cp) (by rw[jS.o]) (o:=m*12) (n:=x.toArray.size) (by
       have hmc:(m+1)*12<=cp*12:=bP _ ab;rw[aZ,lB];omega))
      have fa:=fu.store (i:=m) (y:=x) (by rw[jS.o];omega) lB mM.o (g:=bk) rfl;rw[jS.o]at fa;have ox:=qD.step (fG (ae (one bk) w3) (fun _=>rfl) x (m*12)) (fun _ _ h=>h)
      go_wp2_with (first|((with_reducible refine di 32 ?_);refine aH rfl 155 (.tmp 7) rfl wr.heap.size rfl _ x.toArray (0,0) _ tu.o underlying155 rfl (by rw[aZ];exact Iw.o) ?_)|((with_reducible refine cW 155 ?_);refine iu rfl 155 (.tmp 33) (.tmp 32) rfl bk (m*12) x.toArray rfl rfl X3.o (by rw[aZ];exact Iw.o) (bX mM.o) ?_)|fail)
      go_roundw
      case rel =>
       refine⟨m+1,n+1,ys.set m x,bg,bg,ab,ab,by rw[ed];exact NL.o,fa,?_,?_,ox⟩
       ·rw[dZ (l:=ys.set m x) (List.getElem?_set_self (by rw[NL.o];omega)),gl (ay m),dZ dT.o,cG,HT.o];simp[qF]
       ·rw[gq ab];have e:=ar (List.drop 1) HD.o;simpa[eB]using e
      case measure=>simp[intOf];omega
     ·rw[jS.o]at fu;go_wp2_with fail
      go_roundw
      case rel =>
       refine⟨m,n+1,ys,rfl,bg,ab,ab,NL.o,fu,?_,?_,qD⟩
       ·rw[dZ dT.o,cG,HT.o];simp[qF]
       ·have e:=ar (List.drop 1) HD.o;simpa[eB]using e
      case measure=>simp[intOf];omega
   ·have rR:n=xs.length:=ab;subst rR;have fg:=O (show ys.take m=xs.filter (fun x=>!p x)by have h:=HT.o;rw[aD (ay _)]at h;exact h);have sN:(ys.take m).length=m:=by rw[aM,jS.o];omega
    have zC:=O (show(xs.filter (fun x=>!p x)).length=m by rw[<-fg.o];exact sN);have hcut:=cR.cut (i:=m) (by rw[jS.o];omega) (g:=bk) (cap:=cp) (by rw[jS.o]);have hle:(xs.length-m)*12+m*12<=cp*12:=by rw[<-dF];exact bP _ ab
    have Co:(Builtin.zeroCells Fm (xs.length-m)).toList.length=(xs.length-m)*12:=by simp[Builtin.zeroCells]
    have xr:=fun ty=>jF (P:=prog) wr 90 155 ty Fm underlying90 (fun w=>af) ag P' bk (m*12) (xs.length-m) (cp-m) ab (by
     have:=cR.there (g:=bk) (cap:=cp) (by rw[jS.o]) (o:=m*12) (n:=(xs.length-m)*12) ab;exact this)
    have yk:=hcut.behind (o:=m*12) (vs:=(Builtin.zeroCells Fm (xs.length-m)).toList) (by rw[sN];exact ay _) (g:=bk) (cap:=cp) (by rw[sN]) (by rw[Co];omega);have ox:=cL.step (fG (ae (one bk) wr) (fun _=>rfl) (Builtin.zeroCells Fm (xs.length-m)).toList (m*12)) (fun _ _ h=>h);clear cR rQ hcut Co sN hle jS;go_wp2_with fail
    go_ret;rw[zC.o, <-fg.o];exact⟨_,_,rfl,yk,ox.mono (fun k _ h=>by have e:k=bk:=h;rw[e];rfl),rfl⟩
theorem aeg:∃i0:TypeInfo,prog.info? 155=some i0/\i0.size=12:=by
 have h:(prog.info? 155).map (·.size)=some 12:=af;cases hq:prog.info? 155 with
 |none=>rw[hq]at h;cases h
 |some i=>rw[hq]at h;exact⟨i,rfl,by simpa using h⟩
theorem RB(b:Nat)(bk cp i j:Nat)(xs:cZ)(w:World)(hv:OwnRows b 155 12 w (.slice (some ⟨bk,0,none⟩) xs.length cp) xs)(QR:i<j)(hj:j<=xs.length) :
  aB 140 #[.slice (some ⟨bk,0,none⟩) xs.length cp,.int .i64 i,.int .i64 j] w fun e w'=>e=.returned (.slice (some ⟨bk,0,none⟩) (i+(xs.length-j)) cp)/\OwnRows b 155 12 w' (.slice (some ⟨bk,0,none⟩) (i+(xs.length-j)) cp) (xs.take i++xs.drop j)/\Fr (one bk) w w':=by
 obtain⟨i0,qA,k_⟩:=aeg;obtain⟨Cj,cur,se,q1,q2,q3,q4,q5,q6⟩:=hv.open (g:=bk) rfl;cases se;unfold maxLen at q4;have dT:=hv.at;have eb:=hv.1;obtain⟨news,kJ⟩:∃news,news=(xs.drop j).flatten:=⟨_,rfl⟩;have hdr:∀x∈xs.drop j,x.length=12/\∀u∈x,u.oneCell'=true:=fun x hx=>eb x (eD hx);have hlen:news.length=(xs.length-j)*12:=by rw[kJ,gD (fun x hx=>(hdr x hx).1),bK]
 obtain⟨A,hA,NM⟩:∃A:Addr,(if cp=j then some (⟨bk,0,none⟩:Addr)else some ⟨bk,j*12,none⟩)=some A/\Hid (∀t u,news[t]?=some u->w.drew.cell? (A.add t)=some u):=by
  by_cases h:cp=j
  ·refine⟨⟨bk,0,none⟩,by simp[h],fun t u hu=>?_⟩
   have h0:news.length=0:=by rw[hlen];have:xs.length-j=0:=by omega
                             rw[this,il]
   rw[dH.1 h0]at hu;simp at hu
  ·refine⟨⟨bk,j*12,none⟩,by simp[h],fun t u hu=>?_⟩;have ht:t<(xs.length-j)*12:=by
    have:=(List.getElem?_eq_some_iff.1 hu).1;omega
   have nu:xs.flatten[j*12+t]?=some u:=by
    have e:xs.flatten=(xs.take j).flatten++(xs.drop j).flatten:=by rw[<-en,fO]
    have hl:(xs.take j).flatten.length=j*12:=by rw[gD (fun x hx=>(eb x (eC hx)).1),aM,dP hj]
    rw[e,List.getElem?_append_right ab,hl,show j*12+t-j*12=t from ab, <-kJ];exact hu
   have hjt:j*12+t<xs.length*12:=by
    have:(xs.length-j)*12+j*12=xs.length*12:=by rw[<-dF];congr 1;omega
    omega
   rw[<-q6,List.getElem?_take_of_lt hjt]at nu;have zD:cur[j*12+t]?=some u:=by simpa using nu
   have ea:(Addr.add ⟨bk,j*12,none⟩ t)=⟨bk,j*12+t,none⟩:=by unfold Addr.add;split<;>simp_all
   rw[ea];show w.cell? _=some u;simp[World.cell?,q2,zD]
 have s1:=O hlen;have s2:=O (show∀u∈news,u.oneCell'=true by
  intro u hu;rw[kJ]at hu;obtain⟨x,hx,Gn⟩:=fL.1 hu;exact(hdr x hx).2 u Gn)
 have s3:=O (show∀t,t<news.length->(w.drew.cell? ⟨bk,0+i*12+t,none⟩).isSome=true/\w.drew.frozen? ⟨bk,0+i*12+t,none⟩=false by
  intro t ht;rw[bw];have hle:i*12+(xs.length-j)*12<=cp*12:=by rw[<-dF];exact bP _ ab
  have:=hv.there (g:=bk) (cap:=cp) rfl (o:=i*12) (n:=(xs.length-j)*12) hle t ab;exact this)
 have Vc:OwnRows b 155 12 w.drew (.slice (some ⟨bk,0,none⟩) xs.length cp) xs:=hv;have qx:=Vc.De (i:=i) (ys:=xs.drop j) ab hdr (g:=bk) (cap:=cp) rfl (by rw[bK];omega);rw[bK, <-kJ]at qx;have yl:Fr (one bk) w (w.drew.setCells bk (i*12) news):=((ae (one bk) w).drew).setCells (fun _=>rfl) _ _;obtain⟨W1,Cm⟩:∃W1,W1=w.drew.setCells bk (0+i*12) news:=⟨_,rfl⟩;have HW:=O Cm;rw[bw]at Cm;rw[<-Cm]at qx yl
 have rR:(xs.take i++xs.drop j).length=i+(xs.length-j):=by rw[aN,aM,bK];omega
 have hm:i+(xs.length-j)<xs.length:=ab;have Co:(Builtin.zeroCells Fm (xs.length-(i+(xs.length-j)))).toList.length=(xs.length-(i+(xs.length-j)))*12:=by simp[Builtin.zeroCells]
 have hle:(i+(xs.length-j))*12+(xs.length-(i+(xs.length-j)))*12<=cp*12:=by rw[<-dF];exact bP _ ab
 have xr:=fun ty=>jF (P:=prog) W1 90 155 ty Fm underlying90 (fun w=>af) ag P' bk ((i+(xs.length-j))*12) (xs.length-(i+(xs.length-j))) (cp-(i+(xs.length-j))) ab (by
  have:=qx.there (g:=bk) (cap:=cp) (by rw[rR]) (o:=(i+(xs.length-j))*12) (n:=(xs.length-(i+(xs.length-j)))*12) hle;exact this)
 have yk:=qx.behind (o:=(i+(xs.length-j))*12) (vs:=(Builtin.zeroCells Fm (xs.length-(i+(xs.length-j)))).toList) (by rw[rR];exact ay _) (g:=bk) (cap:=cp) (by rw[rR]) (by rw[Co];omega);have ox:=yl.step (fG (ae (one bk) W1) (fun _=>rfl) (Builtin.zeroCells Fm (xs.length-(i+(xs.length-j)))).toList ((i+(xs.length-j))*12)) (fun _ _ h=>h);have hne:((i:Int)==(j:Int))=false:=by rw[aL];omega
 have adT:i<=cp:=ab;have adU:j<=cp:=ab;have HA:=O hA;clear Cm qx Vc yl kJ hlen hdr eb dT rR Co hle q2 q5 q6 hv;go_enter func140,ntmps140;go_wp2_with fail
 have hA:=HA.o;go_region_law (refine step_append_room rfl (.tmp 22) (.tmp 25) 90 rfl 155 i0 12 underlying90 qA k_ bk 0 i cp (by simp[Act.eval,Act.put]) A (xs.length-j) (cp-j) news (by simp[Act.eval,Act.put]) s1.o NM.out s2.o ab s3.o ?_;rw[<-HW.o])
 all_goals
  go_wp2_with fail
  go_ret;exact⟨rfl,yk,ox⟩
theorem ZN:(prog.info? 155).map (fun i=>(i.zero,i.size,i.bytes))=some (some (.agg #[.bool false,.string ⟨#[]⟩,.int .i64 0,.bool false,.string ⟨#[]⟩,.int .i64 0,.string ⟨#[]⟩,.string ⟨#[]⟩,.bool false,.string ⟨#[]⟩,.string ⟨#[]⟩,.int .i64 0]),12,144):=af
theorem ZO(v:Value)(xs:cZ)(w:World)(h:dY 12 w v xs)(hl:xs.length<=1000000000) :
  aB 200 #[v] w fun e w'=>∃v',e=.returned v'/\OwnRows w.heap.size 155 12 w' v' xs/\Fr aS w w':=by
 obtain⟨a,c,hv⟩:=h.form;subst hv;have q22:∀(w:World) (a:eV) (n c n' c':Nat),(binOp .eql 90 (.slice a n c) (.slice none n' c')).run prog w=.ok (.bool a.isNone) w:=fun w a n c n' c'=>Lib.run_eql_slice_nil w _ _ a n c n' c' underlying90;cases a with
 |none =>
  obtain⟨rfl,rfl⟩:xs=[]/\c=0:=by
   rcases h.2 with ⟨a',c',hv,hs,hc⟩|⟨bk,o',c',hf,_⟩
   ·injection hv with e1 e2 e3
    exact⟨hs,e3.trans (hc e1.symm)⟩
   ·injection hf with e1;cases e1
  go_enter func200,ntmps200;go_wp2;go_ret;exact⟨_,rfl,dy _ _ _ _,ae _ _⟩
 |some ad =>
  have HX:=h.1;have HC:=O (show∀j u,xs.flatten[j]?=some u->w.cell? (ad.add j)=some u from fun j u hj=>by
   rcases h.2 with ⟨_,_,_,e,_⟩|⟨bk,o',c',hf,g1,g2,g3,g4⟩
   ·subst e;simp at hj
   ·cases hf;have zC:xs.flatten.length=xs.length*12:=gD (fun x hx=>(HX x hx).1);have hjl:=(List.getElem?_eq_some_iff.1 hj).1;have hd:j/12<xs.length:=ab;have hm:j%12<12:=ab;have hx:(xs[j/12]).length=12:=(HX _ (bN hd)).1;have e1:=rD (k:=12) (xs:=xs) (fun x hx=>(HX x hx).1) (j:=j/12) (List.getElem?_eq_getElem hd) (i:=j%12) (List.getElem?_eq_getElem (by rw[hx];exact hm));rw[Nat.div_add_mod']at e1
    rw[e1]at hj;cases hj;have:=g4 (j/12) _ (List.getElem?_eq_getElem hd) (j%12) _ (List.getElem?_eq_getElem (by rw[hx];exact hm));have ea:(Addr.add ⟨bk,o',none⟩ j)=⟨bk,o'+j,none⟩:=by unfold Addr.add;split<;>simp_all
    rw[ea, <-this]
    congr 2
    omega)
  have HF:=O (show xs.flatten.length=xs.length*12 from gD (fun x hx=>(HX x hx).1));have Vz:=O HX;obtain⟨i0,hi,po,k_,lp⟩:=info_parts ZN;clear HX h;go_enter func200,ntmps200
  go_wp2_with (at_builtin;refine wpList_append_own _ rfl _ _ 90 rfl w.heap.size 155 i0 (.agg #[.bool false,.string ⟨#[]⟩,.int .i64 0,.bool false,.string ⟨#[]⟩,.int .i64 0,.string ⟨#[]⟩,.string ⟨#[]⟩,.bool false,.string ⟨#[]⟩,.string ⟨#[]⟩,.int .i64 0]) 12 144 underlying90 hi po k_ lp rfl ag _ _ _ rfl (World.ownsRow_made w #[] 0 (ay _) (aQ _) rfl) ad xs.length c xs.flatten rfl HF.o ?qc2 ?qc3 ?qc4 ?qc5 ?qc6 ?_)
  case qc2 =>
   intro j u hj;exact Lib.cell?_alloc_some _ (HC.o j u hj)
  case qc3 =>
   intro u hu;obtain⟨x,hx,Gn⟩:=fL.1 hu;exact(Vz.o x hx).2 u Gn
  case qc4=>unfold maxLen;omega
  case qc5=>omega
  case qc6=>simp
  intro v' w1 cR jC Kd;go_wp2;go_ret;refine⟨v',rfl,⟨Vz.o,by simpa using cR⟩,fk (((Below.refl _ w).alloc (ay _) _).grown jC aR (by intro k hk;simp[Value.ownBlock]at hk;omega))⟩
theorem aau:(prog.info? 97).map (fun i=>(i.zero,i.size,i.bytes))=some (some (.agg #[.bool false,.string ⟨#[]⟩,.int .i64 0,.int .i64 0]),4,40):=af
theorem Qm(v:Value)(xs:cZ)(w:World)(h:dY 4 w v xs)(hl:xs.length<=1000000000) :
  aB 81 #[v] w fun e w'=>∃v',e=.returned v'/\OwnRows w.heap.size 97 4 w' v' xs/\Fr aS w w':=by
 obtain⟨a,c,hv⟩:=h.form;subst hv;have q22:∀(w:World) (a:eV) (n c n' c':Nat),(binOp .eql 81 (.slice a n c) (.slice none n' c')).run prog w=.ok (.bool a.isNone) w:=fun w a n c n' c'=>Lib.run_eql_slice_nil w _ _ a n c n' c' underlying81;cases a with
 |none =>
  obtain⟨rfl,rfl⟩:xs=[]/\c=0:=by
   rcases h.2 with ⟨a',c',hv,hs,hc⟩|⟨bk,o',c',hf,_⟩
   ·injection hv with e1 e2 e3
    exact⟨hs,e3.trans (hc e1.symm)⟩
   ·injection hf with e1;cases e1
  go_enter func81,ntmps81;go_wp2;go_ret;exact⟨_,rfl,dy _ _ _ _,ae _ _⟩
 |some ad =>
  have HX:=h.1;have HC:=O (show∀j u,xs.flatten[j]?=some u->w.cell? (ad.add j)=some u from fun j u hj=>by
   rcases h.2 with ⟨_,_,_,e,_⟩|⟨bk,o',c',hf,g1,g2,g3,g4⟩
   ·subst e;simp at hj
   ·cases hf;have zC:xs.flatten.length=xs.length*4:=gD (fun x hx=>(HX x hx).1);have hjl:=(List.getElem?_eq_some_iff.1 hj).1;have hd:j/4<xs.length:=ab;have hm:j%4<4:=ab;have hx:(xs[j/4]).length=4:=(HX _ (bN hd)).1;have e1:=rD (k:=4) (xs:=xs) (fun x hx=>(HX x hx).1) (j:=j/4) (List.getElem?_eq_getElem hd) (i:=j%4) (List.getElem?_eq_getElem (by rw[hx];exact hm));rw[Nat.div_add_mod']at e1;rw[e1]at hj
    cases hj;have:=g4 (j/4) _ (List.getElem?_eq_getElem hd) (j%4) _ (List.getElem?_eq_getElem (by rw[hx];exact hm));have ea:(Addr.add ⟨bk,o',none⟩ j)=⟨bk,o'+j,none⟩:=by unfold Addr.add;split<;>simp_all
    rw[ea, <-this]
    congr 2
    omega)
  have HF:=O (show xs.flatten.length=xs.length*4 from gD (fun x hx=>(HX x hx).1));have Vz:=O HX;obtain⟨i0,hi,po,k_,lp⟩:=info_parts aau;clear HX h;go_enter func81,ntmps81
  go_wp2_with (at_builtin;refine wpList_append_own _ rfl _ _ 81 rfl w.heap.size 97 i0 (.agg #[.bool false,.string ⟨#[]⟩,.int .i64 0,.int .i64 0]) 4 40 underlying81 hi po k_ lp rfl ag _ _ _ rfl (World.ownsRow_made w #[] 0 (ay _) (aQ _) rfl) ad xs.length c xs.flatten rfl HF.o ?qc2 ?qc3 ?qc4 ?qc5 ?qc6 ?_)
  case qc2 =>
   intro j u hj;exact Lib.cell?_alloc_some _ (HC.o j u hj)
  case qc3 =>
   intro u hu;obtain⟨x,hx,Gn⟩:=fL.1 hu;exact(Vz.o x hx).2 u Gn
  case qc4=>unfold maxLen;omega
  case qc5=>omega
  case qc6=>simp
  intro v' w1 cR jC Kd;go_wp2;go_ret;refine⟨v',rfl,⟨Vz.o,by simpa using cR⟩,fk (((Below.refl _ w).alloc (ay _) _).grown jC aR (by intro k hk;simp[Value.ownBlock]at hk;omega))⟩
def afQ(w:World)(p:aX->Bool)(xs:cZ)(i:Value)(wr:World):Prop :=
 ∃k:Nat,k<=xs.length/\i=.int .i64 k/\(xs.take k).any p=false/\Fr aS w wr
theorem Jg(g:Nat)(cap:bS)(p:aX->Bool)(v:Value)(xs:cZ)(w:World)(eg:∀args w,(callFunc g args).run prog w=.ok (.enter g args) w)(hp:gP aS w g cap p xs)(hv:dY 24 w v xs) :
  aB 44 #[v,.func (.func g) #[] cap] w fun e w'=>e=.returned (.int .i64 (lU p xs 0))/\Fr aS w w':=by
 obtain⟨av,cv,fJ⟩:=hv.form;subst fJ;have eb:=O hv.1;go_enter func44,ntmps44;go_wp2;go_loopw[8] (afQ w p xs) (fun i _=>xs.length-(intOf i).toNat)
 case atStart=>exact⟨0,aQ _,rfl,rfl,ae _ _⟩
 case round =>
  obtain⟨k,hk,rfl,hn,cL⟩:=hrel;have HN:=O hn;clear hn;by_cases fo:k<xs.length
  ·rcases(hv.fI cL).2 with ⟨_,_,_,e,_⟩|⟨bk,of,c,hf,h1,h2,h3,h4⟩
   ·rw[e]at fo;exact absurd fo (ct _)
   ·cases hf;unfold maxLen at h2;have dT:=O (List.getElem?_eq_getElem fo);have hcell:=h4 k _ dT.o;have iD:=O (bN fo);generalize xs[k]=x at dT hcell iD;have fD:=O (hp x iD.o wr cL);have lB:=(eb.o x iD.o).1;clear h4;cases qF:p x
    ·have qe:=O (any_take_succ dT.o HN.o qF);go_wp2_with (first|((with_reducible refine di 15 ?_);refine a_ rfl 66 (.tmp 14) rfl bk (of+k*24) rfl x _ hcell underlying66 rfl (XA lB) ?_)|fail)
     refine fD.o.mono ?_;rintro e w1⟨rfl,dr⟩;rw[qF];go_wp2;go_roundw
     case rel=>exact⟨k+1,ab,bg,qe.o,cL.trans dr⟩
     case measure=>simp[intOf];omega
    ·have fg:=O (oT (i:=0) dT.o qF HN.o);go_wp2_with (first|((with_reducible refine di 15 ?_);refine a_ rfl 66 (.tmp 14) rfl bk (of+k*24) rfl x _ hcell underlying66 rfl (XA lB) ?_)|fail)
     refine fD.o.mono ?_;rintro e w1⟨rfl,dr⟩;rw[qF];go_wp2;go_ret;rw[fg.o,bw];exact⟨rfl,cL.trans dr⟩
  ·have fg:=O (show lU p xs 0= -1 from kt (by have h:=HN.o;rw[aD ab]at h;exact h));go_wp2;go_ret;rw[fg.o];exact⟨rfl,cL⟩
theorem Cs(g:Nat)(cap:bS)(p:aX->Bool)(v:Value)(xs:cZ)(w:World)(eg:∀args w,(callFunc g args).run prog w=.ok (.enter g args) w)(hp:gP aS w g cap p xs)(hv:dY 24 w v xs) :
  aB 25 #[v,.func (.func g) #[] cap] w fun e w'=>e=.returned (.bool (xs.any p))/\Fr aS w w':=by
 have hb:=O (rL p xs 0);go_enter func25,ntmps25;go_wp2_with fail
 refine(Jg g cap p v xs w eg hp hv).mono ?_;rintro e w1⟨rfl,dr⟩;go_wp2;go_ret;exact⟨fB hb.o,dr⟩
def afR(w:World)(p:aX->Bool)(xs:cZ)(i:Value)(wr:World):Prop :=
 ∃k:Nat,k<=xs.length/\i=.int .i64 k/\(xs.take k).any p=false/\Fr aS w wr
theorem Jh(g:Nat)(cap:bS)(p:aX->Bool)(v:Value)(xs:cZ)(w:World)(eg:∀args w,(callFunc g args).run prog w=.ok (.enter g args) w)(hp:gP aS w g cap p xs)(hv:dY 22 w v xs) :
  aB 82 #[v,.func (.func g) #[] cap] w fun e w'=>e=.returned (.int .i64 (lU p xs 0))/\Fr aS w w':=by
 obtain⟨av,cv,fJ⟩:=hv.form;subst fJ;have eb:=O hv.1;go_enter func82,ntmps82;go_wp2;go_loopw[8] (afR w p xs) (fun i _=>xs.length-(intOf i).toNat)
 case atStart=>exact⟨0,aQ _,rfl,rfl,ae _ _⟩
 case round =>
  obtain⟨k,hk,rfl,hn,cL⟩:=hrel;have HN:=O hn;clear hn;by_cases fo:k<xs.length
  ·rcases(hv.fI cL).2 with ⟨_,_,_,e,_⟩|⟨bk,of,c,hf,h1,h2,h3,h4⟩
   ·rw[e]at fo;exact absurd fo (ct _)
   ·cases hf;unfold maxLen at h2;have dT:=O (List.getElem?_eq_getElem fo);have hcell:=h4 k _ dT.o;have iD:=O (bN fo);generalize xs[k]=x at dT hcell iD;have fD:=O (hp x iD.o wr cL);have lB:=(eb.o x iD.o).1;clear h4;cases qF:p x
    ·have qe:=O (any_take_succ dT.o HN.o qF);go_wp2_with (first|((with_reducible refine di 15 ?_);refine a_ rfl 41 (.tmp 14) rfl bk (of+k*22) rfl x _ hcell underlying41 rfl (Xw lB) ?_)|fail)
     refine fD.o.mono ?_;rintro e w1⟨rfl,dr⟩;rw[qF];go_wp2;go_roundw
     case rel=>exact⟨k+1,ab,bg,qe.o,cL.trans dr⟩
     case measure=>simp[intOf];omega
    ·have fg:=O (oT (i:=0) dT.o qF HN.o);go_wp2_with (first|((with_reducible refine di 15 ?_);refine a_ rfl 41 (.tmp 14) rfl bk (of+k*22) rfl x _ hcell underlying41 rfl (Xw lB) ?_)|fail)
     refine fD.o.mono ?_;rintro e w1⟨rfl,dr⟩;rw[qF];go_wp2;go_ret;rw[fg.o,bw];exact⟨rfl,cL.trans dr⟩
  ·have fg:=O (show lU p xs 0= -1 from kt (by have h:=HN.o;rw[aD ab]at h;exact h));go_wp2;go_ret;rw[fg.o];exact⟨rfl,cL⟩
theorem Ct(g:Nat)(cap:bS)(p:aX->Bool)(v:Value)(xs:cZ)(w:World)(eg:∀args w,(callFunc g args).run prog w=.ok (.enter g args) w)(hp:gP aS w g cap p xs)(hv:dY 22 w v xs) :
  aB 39 #[v,.func (.func g) #[] cap] w fun e w'=>e=.returned (.bool (xs.any p))/\Fr aS w w':=by
 have hb:=O (rL p xs 0);go_enter func39,ntmps39;go_wp2_with fail
 refine(Jh g cap p v xs w eg hp hv).mono ?_;rintro e w1⟨rfl,dr⟩;go_wp2;go_ret;exact⟨fB hb.o,dr⟩
def bA(l:Bs):aj:=⟨l.toArray⟩
theorem fU(l:Bs):(bA l).data.toList=l:=by unfold bA;simp
theorem Ua(s:aj):bA s.data.toList=s:=by unfold bA;simp
def kr(ps:List jz)(name:Bs):Option Bs:=(ps.find? fun p=>dJ p.1 name).map (·.2)
def vF:Bs:=[114,101,97,108,109]
def Hm:Bs:=[98,97,115,105,99]
def Cy:Bs:=[100,105,103,101,115,116]
def yX:Bs:=[97,108,103,111,114,105,116,104,109]
def xR:Bs:=[77,68,53]
def Hn:Bs:=[83,72,65,45,50,53,54]
def yY:Bs:=[45,115,101,115,115]
def vG:Bs:=[110,111,110,99,101]
def J8:Bs:=[113,111,112]
def mh:Bs:=[97,117,116,104]
def qi:Bs:=[97,117,116,104,45,105,110,116]
def mi:Bs:=[111,112,97,113,117,101]
def AK:Bs:=[115,116,97,108,101]
def lS:Bs:=[116,114,117,101]
def qT:Bs:=[100,111,109,97,105,110]
def Ub(s:Bs):Option (Int×Bool) :=
 if dJ s xR then some (2,false)
 else if dJ s (xR++yY)then some (2,true)
 else if dJ s Hn then some (3,false)
 else if dJ s (Hn++yY)then some (3,true)
 else none
def Pr(l:List Bs):Option Bs :=
 if l.any (fun w=>dJ w mh)then some mh else if l.any (fun w=>dJ w qi)then some qi else none
def Uc(q:Bs):Option Bs :=
 match g_ q with
 | .error _=>none
 | .ok l=>if 40<l.length then none else Pr l
def Ud(ps:List jz):Option Bs :=
 match kr ps J8 with
 |none=>some []
 |some q=>Uc q
def Ho(d:Bs):List Bs:=((ec 32 d).filter fun p=>M5 47 p).map oJ
def nd(x:nt):Option (fK bE) :=
 match kr x.params vF with
 |none=>none
 |some aK =>
  if dJ x.scheme Hm then some ⟨1,bA aK,bA [],bA [],false,bA [],false,[]⟩else
  match Ub ((kr x.params yX).getD xR)with
  |none=>none
  |some (k,cA) =>
   if !dJ x.scheme Cy then none else
   match kr x.params vG with
   |none=>none
   |some bq =>
    match Ud x.params with
    |none=>none
    |some q=>some ⟨k,bA aK,bA bq,bA ((kr x.params mi).getD []),cA,bA q,dJ ((kr x.params AK).getD []) lS,(Ho ((kr x.params qT).getD [])).map bA⟩
def Ps:fK bE:=⟨0,bA [],bA [],bA [],false,bA [],false,[]⟩
def pL(a:fK bE)(x:nt):fK bE :=
 match nd x with
 |none=>a
 |some b=>if a.scheme<b.scheme then b else a
def ji(l:List nt):fK bE:=l.foldl pL Ps
theorem M7(l:List nt)(x:nt):ji (l++[x])=pL (ji l) x:=by simp[ji]
open Go.RowKit Go.Sort
abbrev ig:=aj×aj
def ig.cells(p:ig):aX:=[.string p.1,.string p.2]
def oL(w:World)(v:Value)(ps:List ig):Prop:=dY 2 w v (ps.map ig.cells)
def th(s:aj):aj:=⟨(nv s.data.toList).toArray⟩
def vI(ps:List ig):List aj:=(ps.filter fun p=>!lZ p.1 p.2).map fun p=>th p.1
def Jq(ps:List ig):List aj:=(ps.filter fun p=>lZ p.1 p.2).map fun p=>th p.1
def nB(ps:List ig):Nat:=((ps.filter fun p=>lZ p.1 p.2).map fun p=>p.2.size).sum
def Ht(ps:List ig):List aj:=vI ps++(if 1024<nB ps then Jq ps else [])
def ac_(ps:List ig):List (aI):=Lib.compact (ur ((Ht ps).map fun s=>s.data.toList))
def xU(ps:List ig):List aj:=(ac_ ps).map fun l=>⟨l.toArray⟩
theorem Hu(ps:List ig)(p:ig)(h:lZ p.1 p.2=false):vI (ps++[p])=vI ps++[th p.1]/\Jq (ps++[p])=Jq ps/\nB (ps++[p])=nB ps:=by
 unfold vI Jq nB;simp[cG,h]
theorem E_(ps:List ig)(p:ig)(h:lZ p.1 p.2=true):vI (ps++[p])=vI ps/\Jq (ps++[p])=Jq ps++[th p.1]/\nB (ps++[p])=nB ps+p.2.size:=by
 unfold vI Jq nB;simp[cG,h]
theorem YP(ps:List ig):(vI ps).length<=ps.length:=by unfold vI;rw[ai];exact bU _ _
theorem ac'(ps:List ig):(Jq ps).length<=ps.length:=by unfold Jq;rw[ai];exact bU _ _
theorem Ki{a b:aj}(h:lZ a b=true):b.size<=128:=by
 unfold lZ at h;split at h
 ·cases h
 ·omega
theorem abw:∀ps:List ig,nB ps<=128*ps.length
 |[]=>by simp[nB]
 |p :: ps=>by
  have ih:=abw ps;unfold nB at ih ⊢;rw[List.filter_cons];split
  ·rename_i h;have:=Ki h;simp only[cE,List.sum_cons,List.length_cons];omega
  ·simp only[List.length_cons];omega
theorem QO{α:Type}{l:List α}{x:α}(h:l[k]?=some x):l.take (k+1)=l.take k++[x]:=by
 rw[cC,h];rfl
def vJ(u v:Value):Prop:=∀k,u.ownBlock=some k->v.ownBlock≠some k
def ahc(ps:List ig)(w:World)(out plain n i:Value)(wr:World):Prop :=
 ∃k:Nat,k<=ps.length/\i=.int .i64 k/\n=.int .i64 (nB (ps.take k))/\Strs w.heap.size wr out (vI (ps.take k))/\Strs w.heap.size wr plain (Jq (ps.take k))/\vJ out plain/\Fr aS w wr
theorem Strs.lt(h:Strs base w v ss):∀k,v.ownBlock=some k->base<=k/\k<w.heap.size:=World.ownsRow.lt h
theorem Strs.kept{w':World}{row:Option Nat}(h:Strs base w v ss)(hg:w.grownBy w' row)(hne:∀k,row=some k->v.ownBlock≠some k):Strs base w' v ss:=by
 refine World.ownsRow.kept h hg ?_;cases hv:v.ownBlock with
 |none=>exact Or.inl rfl
 |some k=>exact Or.inr fun e=>hne k e.symm hv
theorem vJ.sep{v2:Value}(h:vJ u v)(hs:Sep w v v2)(hu:Strs base w u ss):vJ u v2:=by
 intro k hk e;rcases hs with hs|hs
 ·rw[hs]at e;exact h k hk e
 ·have h1:=hs k e;have h2:=(hu.lt k hk).2;omega
theorem vJ.symm(h:vJ u v):vJ v u:=fun k hv hu=>h k hu hv
theorem Uh(ss:List aj):ss.map Value.string=(ss.map fun s=>s.data.toList).map encStr:=by
 rw[iq];rfl
def Ui(ls:List (aI)):List aj:=ls.map fun l=>⟨l.toArray⟩
theorem Hv(ls:List (aI)):(Ui ls).map Value.string=ls.map encStr:=by unfold Ui;rw[iq];rfl
theorem FW(base:Nat)(v:Value)(ss:List aj)(w:World)(h:Strs base w v ss)(hl:ss.length<1000000) :
  aB 182 #[v] w fun e w'=>e=.returned (.tuple #[])/\Strs base w' v (Ui (ur (ss.map fun s=>s.data.toList)))/\w.grownBy w' v.ownBlock:=by
 have h2:w.ownsRow base 9 1 v (ss.map fun s=>s.data.toList).length ((ss.map fun s=>s.data.toList).map encStr):=by
  rw[<-Uh,ai];exact h
 refine(Uf base v _ w h2 (by rw[ai];exact hl)).mono ?_;rintro e w'⟨he,ho,hg⟩;refine⟨he,?_,hg⟩;unfold Strs;rw[Hv,show(Ui (ur (ss.map fun s=>s.data.toList))).length=(ss.map fun s=>s.data.toList).length from by unfold Ui ur;simp];exact ho
theorem zd(base:Nat)(v:Value)(ls:List (aI))(w:World)(h:Strs base w v (Ui ls))(hl:ls.length<1000000) :
  aB 183 #[v] w fun e w'=>∃u,e=.returned u/\Strs base w' u (Ui (Lib.compact ls))/\w.grownBy w' v.ownBlock:=by
 have e1:(Ui ls).length=ls.length:=by unfold Ui;simp
 have h2:w.ownsRow base 9 1 v ls.length (ls.map encStr):=by
  rw[<-Hv, <-e1];exact h
 refine(Kg base v ls w h2 hl).mono ?_;rintro e w'⟨u,he,ho,hg⟩;refine⟨u,he,?_,hg⟩;unfold Strs;rw[Hv,show(Ui (Lib.compact ls)).length=(Lib.compact ls).length from by unfold Ui;simp];exact ho
theorem FX(ps:List ig)(v:Value)(w:World)(h:oL w v ps)(hl:ps.length<100000)(hz:∀p∈ps,p.1.size<100000/\p.2.size<100000) :
  aB 122 #[v] w fun e w'=>∃u,e=.returned u/\Strs w.heap.size w' u (xU ps)/\Fr aS w w':=by
 obtain⟨av,cv,hv⟩:=h.form;rw[ai]at hv;have HZ:=O hz;clear hz;subst hv;go_enter func122,ntmps122;go_wp2;go_loopw[3,4,5,11] (ahc ps w) (fun _ _ _ i _=>ps.length-(intOf i).toNat)
 case atStart=>exact⟨0,aQ _,rfl,rfl,kU _ _,kU _ _,fun k e=>by simp[Value.ownBlock]at e,ae _ _⟩
 case round =>
  obtain⟨k,hk,rfl,rfl,ho,hp,YQ,cL⟩:=hrel;obtain⟨ao,co,MM⟩:=ho.form;obtain⟨ap,cp,hpe⟩:=hp.form;have hn:=abw (ps.take k);rw[aM]at hn;have Th:=YP (ps.take k);have EN:=ac' (ps.take k);rw[aM]at Th EN;by_cases fo:k<ps.length
  ·have pq:(k:Int)<(ps.length:Int):=ab;have dT:=O (List.getElem?_eq_getElem fo);have yG:=HZ.o _ (bN fo);generalize ps[k]=p at dT yG;obtain⟨nm,vl⟩:=p;obtain⟨k_,lp⟩:=yG;have QP:=O (QO dT.o);have lY:dY 2 wr (.slice av ps.length cv) (ps.map ig.cells):=bh h cL;rcases lY.2 with ⟨_,_,_,e,_⟩|⟨bk,of,c,dr,h1,h2,h3,h4⟩
   ·have:ps.length=0:=by have:=ar List.length e;simpa using this
    omega
   rw[ai]at dr h1;cases dr;unfold maxLen at h2;have hcell:=h4 k (ig.cells (nm,vl)) (by rw[List.getElem?_map,dT.o];rfl);have c0:wr.cell? ⟨bk,of+k*2,none⟩=some (.string nm):=hcell 0 (.string nm) rfl;have c1:=hcell 1 (.string vl) rfl;clear hcell h4 lY;obtain⟨wb,j6⟩:∃wb,wb=wr.alloc (.cells #[.string nm,.string vl] 171):=⟨_,rfl⟩;have ks:Fr aS wr wb:=by rw[j6];exact(ae aS wr).alloc _
   have mf:wb.heap[wr.heap.size]?=some (.cells #[.string nm,.string vl] 171 (0,0)):=by rw[j6];exact aC _ _
   have HC:=O (show∀U,Fr aS wb U->U.cell? ⟨wr.heap.size,0,none⟩=some (.string nm)/\U.cell? ⟨wr.heap.size,1,none⟩=some (.string vl)from fun U hU=>by
    have j1:=hU.keep mf id;simp[World.cell?,j1])
   have qV:=O j6;have mr:=O (cL.trans ks);have HO:=O (ho.fr ks (fun _ h=>h.elim));have HP:=O (hp.fr ks (fun _ h=>h.elim));have am_:=O (show∀j,(Value.slice ap (Jq (ps.take k)).length cp).ownBlock=some j->j<wr.heap.size from fun j hj=>(hp.lt j (by rw[hpe];exact hj)).2);clear j6 ks mf ho hp cL;go_wp2_with fail
   rw[<-qV.o];refine(rj nm wb ab).mono ?_;rintro e u1⟨rfl,dr⟩;obtain⟨k0,k1⟩:=HC.o u1 dr;have lC:=O dr;clear dr c0 c1;go_wp2_with fail
   refine(QM nm vl u1 ab ab).mono ?_;rintro e u2⟨rfl,dB⟩;obtain⟨k2,k3⟩:=HC.o u2 (lC.o.trans dB);have f_:=O ((mr.o.trans lC.o).trans dB);have ze:=lC.o.trans dB;have K3A:=O (show∀o:Obj,(u2.alloc o).cell? ⟨wr.heap.size,1,none⟩=some (.string vl)from fun o=>(HC.o _ (ze.alloc o)).2);have qX:=HO.o.fr ze (fun _ h=>h.elim);have C_:=HP.o.fr ze (fun _ h=>h.elim);have xb:w.heap.size<=u2.heap.size:=f_.o.size
   rw[MM]at qX YQ;rw[hpe]at C_ YQ;clear dB ze k0 k1;have HLA:=O (show(⟨(nv nm.data.toList).toArray⟩:aj)=th nm from rfl);rw[HLA.o];generalize hla:th nm=la at *
   have HE:=O hla;clear hla;cases Uj:lZ nm vl
   ·obtain⟨s1,s2,s3⟩:=Hu (ps.take k) (nm,vl) Uj;rw[<-QP.o,HE.o]at s1;rw[<-QP.o]at s2 s3;have S1:=O s1;have S2:=O s2;have S3:=O s3;clear s1 s2 s3 Uj;go_wp2_with (at_builtin;refine BJ rfl _ _ rfl w.heap.size (.slice ao _ co) (vI (ps.take k)) rfl (by apply iG;exact qX) ⟨u2.heap.size,0,none⟩ 1 la rfl (jw _ _ _ _) ab bI ?_;intro v' w3 fu Cw Uk)
    have hp3:Strs w.heap.size w3 (.slice ap (Jq (ps.take k)).length cp) (Jq (ps.take k)):=(C_.alloc _).kept Cw (fun j hj=>YQ j hj);have adb:vJ v' (.slice ap (Jq (ps.take k)).length cp):=(vJ.sep YQ.symm Uk (C_.alloc _)).symm;have iA:=O ((f_.o.alloc (.cells #[.string la] 9)).fR Cw (fun j hj=>(qX.block j hj)));go_roundw
    case rel=>exact⟨k+1,ab,bg,by rw[S3.o],by rw[S1.o];exact fu,by rw[S2.o];exact hp3,adb,iA.o⟩
    case measure=>simp[intOf];omega
   ·obtain⟨s1,s2,s3⟩:=E_ (ps.take k) (nm,vl) Uj;have Ti:=Ki Uj;rw[<-QP.o,HE.o]at s2;rw[<-QP.o]at s1 s3;have S1:=O s1;have S2:=O s2;have S3:=O s3;clear s1 s2 s3 Uj
    go_wp2_with (at_builtin;refine BJ rfl _ _ rfl w.heap.size (.slice ap _ cp) (Jq (ps.take k)) rfl (by apply iG;exact C_) ⟨u2.heap.size,0,none⟩ 1 la rfl (jw _ _ _ _) ab bI ?_;intro v' w3 fu Cw Uk;have k4:w3.cell? ⟨wr.heap.size,1,none⟩=some (.string vl):=Cw.cell (K3A.o _) (fun e=>absurd (am_.o _ e.symm) (Nat.lt_irrefl _)))
    have xV:Strs w.heap.size w3 (.slice ao (vI (ps.take k)).length co) (vI (ps.take k)):=(qX.alloc _).kept Cw (fun j hj hj2=>YQ j hj2 hj);have adb:vJ (.slice ao (vI (ps.take k)).length co) v':=vJ.sep YQ Uk (qX.alloc _);have iA:=O ((f_.o.alloc (.cells #[.string la] 9)).fR Cw (fun j hj=>(C_.block j hj)));go_roundw
    case rel=>exact⟨k+1,ab,bg,by rw[S3.o];go_num,by rw[S1.o];exact xV,by rw[S2.o];exact fu,adb,iA.o⟩
    case measure=>simp[intOf];omega
  ·have pq:¬(k:Int)<(ps.length:Int):=ab;have QN:ps.take k=ps:=aD ab;rw[QN]at ho hp MM hpe hn Th EN ⊢;clear QN;subst MM hpe;have hs0:w.heap.size<=wr.heap.size:=cL.size;obtain⟨N,hN⟩:∃N,N=nB ps:=⟨_,rfl⟩;have HR1:=O (show 1024<N->Ht ps=vI ps++Jq ps from fun e=>by unfold Ht;rw[<-hN,az e]);have Nd:=O (show¬1024<N->Ht ps=vI ps from fun e=>by unfold Ht;rw[<-hN,aq e,dV]);rw[<-hN]at hn ⊢;clear hN
   by_cases Ay:1024<N
   ·have HR:=O (HR1.o Ay);have ana:(1024:Int)<(N:Int):=ab;go_wp2_with (at_builtin;refine Kh rfl _ _ rfl w.heap.size _ (vI ps) rfl ho (.slice ap (Jq ps).length cp) (Jq ps) rfl hp.at ab ab ?_;intro v2 w2 qX xk)
    rw[<-HR.o]at qX;have f_:=O (cL.fR xk (fun j hj=>ho.block j hj));have ve:(Ht ps).length<1000000:=by rw[HR.o,aN];omega
    clear xk ho hp YQ;go_wp2_with fail
    refine(FW w.heap.size v2 (Ht ps) w2 qX ve).mono ?_;rintro e w3⟨rfl,xV,Cw⟩;have iA:=O (f_.o.fR Cw (fun j hj=>qX.block j hj));go_wp2_with fail
    refine(zd w.heap.size v2 _ w3 xV (by unfold ur;simpa using ve)).mono ?_;rintro e w4⟨u,rfl,Tj,Ci⟩;have jZ:=O (iA.o.fR Ci (fun j hj=>xV.block j hj));go_wp2;go_ret;exact⟨u,rfl,Tj,jZ.o⟩
   ·have HR:=O (Nd.o Ay);have ana:¬(1024:Int)<(N:Int):=ab;rw[<-HR.o]at ho;have ve:(Ht ps).length<1000000:=by rw[HR.o];omega
    rw[<-HR.o];go_wp2_with fail
    refine(FW w.heap.size _ (Ht ps) wr ho ve).mono ?_;rintro e w3⟨rfl,xV,Cw⟩;have iA:=O (cL.fR Cw (fun j hj=>ho.block j hj));go_wp2_with fail
    refine(zd w.heap.size _ _ w3 xV (by unfold ur;simpa using ve)).mono ?_;rintro e w4⟨u,rfl,Tj,Ci⟩;have jZ:=O (iA.o.fR Ci (fun j hj=>xV.block j hj));go_wp2;go_ret;exact⟨u,rfl,Tj,jZ.o⟩
def Px(t:Bs):Prop:=∃n m:Bs,t=n++m/\n≠ []/\n.all E5=true/\m.all lj=true
def Py(p:jz):Prop:=AH p.1=true/\Hk p.2=true
structure nt.Ok (x:nt):Prop where
 scheme:AH x.scheme=true
 token:x.token=[]\/(x.params=[]/\Px x.token)
 tP:x.params.length<=16
 zg:∀p∈x.params,Py p
 apart:∀(i j:Nat) p q,i<j->x.params[i]?=some p->x.params[j]?=some q->dJ p.1 q.1=false
theorem taken(p:UInt8->Bool):∀l:Bs,(l.takeWhile p).all p=true
 |[]=>rfl
 |c :: l=>by
  cases h:p c
  ·rw[List.takeWhile_cons_of_neg (by simp[h])];rfl
  ·rw[List.takeWhile_cons_of_pos h,List.all_cons,h,taken p l];rfl
theorem Db(h:(ia r).isEmpty=false):AH (ia r)=true:=by
 unfold AH;rw[h];have:(ia r).all fW=true:=taken fW r;rw[this];rfl
theorem Dc:∀(f:Nat) (r a z:Bs),r.length<=f->vy r=some (a,z)->a.all nw=true
 |0,r,a,z,hf,h=>by
  have:r=[]:=cj ab;subst this;rw[vy.eq_def]at h;simp at h
 |f+1,[],a,z,hf,h=>by rw[vy.eq_def]at h;simp at h
 |f+1,x :: r,a,z,hf,h=>by
  rw[vy.eq_def]at h;simp only at h;by_cases h1:(x==34)=true
  ·rw[az h1]at h;cases h;rfl
  ·rw[aq h1]at h;by_cases h2:(x==92)=true
   ·rw[az h2]at h;cases r with
    |nil=>simp at h
    |cons y r' =>
     simp only at h;by_cases h3:nw y=true
     ·rw[az h3]at h;cases hq:vy r' with
      |none=>rw[hq]at h;simp at h
      |some p =>
       rw[hq]at h;simp at h;obtain⟨rfl,rfl⟩:=h;have:=Dc f r' p.1 p.2 (by simp at hf;omega) hq;rw[List.all_cons,h3,this];rfl
     ·rw[aq h3]at h;simp at h
   ·rw[aq h2]at h;by_cases h3:nw x=true
    ·rw[az h3]at h;cases hq:vy r with
     |none=>rw[hq]at h;simp at h
     |some p =>
      rw[hq]at h;simp at h;obtain⟨rfl,rfl⟩:=h;have:=Dc f r p.1 p.2 (by simp at hf;omega) hq;rw[List.all_cons,h3,this];rfl
    ·rw[aq h3]at h;simp at h
theorem QQ{a:Bs}(h:pI r=some (a,z)):Hk a=true:=by
 unfold pI at h;unfold Hk;split at h
 ·cases r with
  |nil=>cases h
  |cons c t =>
   have h':(if c==34 then vy t else none)=some (a,z):=h;by_cases hc:(c==34)=true
   ·rw[az hc]at h';have:=Dc _ t a z (ay _) h';rw[show n9 a=true from this,kq]
   ·rw[aq hc]at h';cases h'
 ·rename_i hw;cases h;rw[Db (by simpa using hw)];rfl
theorem FZ(h:ld ps r=.ok (p,z)):Py p/\uk ps p.1=false/\ps.length≠16:=by
 unfold ld at h;by_cases hn:lI r=true
 ·rw[aq (by simp[hn])]at h;cases hv:pI (nH r)with
  |none=>rw[hv]at h;cases h
  |some q =>
   rw[hv]at h;simp only at h;split at h
   ·cases h
   rename_i ht;split at h
   ·cases h
   rename_i hk;cases h;exact⟨⟨Db (BF hn),QQ (a:=q.1) (z:=q.2) hv⟩,by simpa using ht,hk⟩
 ·rw[az (by simpa using hn)]at h;cases h
structure vM (ps:List jz):Prop where
 tP:ps.length<=16
 zg:∀p∈ps,Py p
 apart:∀(i j:Nat) p q,i<j->ps[i]?=some p->ps[j]?=some q->dJ p.1 q.1=false
theorem vM.nil:vM []:=⟨aR,aR,aR⟩
theorem vM.snoc(h:vM ps)(hp:Py p)(ht:uk ps p.1=false)(hl:ps.length≠16):vM (ps++[p]):=by
 refine⟨?_,?_,?_⟩
 ·have:=h.tP;simp;omega
 ·intro q hq;rcases bR.1 hq with g|g
  ·exact h.zg q g
  ·simp at g;subst g;exact hp
 ·intro i j q q' QR hi hj;have hj':=(List.getElem?_eq_some_iff.1 hj).1;simp at hj';by_cases hjl:j<ps.length
  ·rw[List.getElem?_append_left hjl]at hj;rw[List.getElem?_append_left ab]at hi;exact h.apart i j q q' QR hi hj
  ·have e:j=ps.length:=ab;subst e;rw[List.getElem?_append_left ab]at hi;simp at hj;subst hj;unfold uk at ht;rw[eY]at ht;simpa using ht q (cq hi)
theorem Dd:∀(f:Nat) (ps:List jz) (r:Bs) (q:List jz×Bs),vM ps->gU f ps r=.ok q->vM q.1
 |0,ps,r,q,ho,h=>by rw[gU]at h;cases h;exact ho
 |f+1,ps,r,q,ho,h=>by
  rw[gU]at h;cases hp:ld ps r with
  |error e=>rw[hp]at h;cases h
  |ok p =>
   rw[hp]at h;obtain⟨p,r1⟩:=p;obtain⟨h1,h2,h3⟩:=FZ hp;have ER:=ho.snoc h1 h2 h3;simp only at h;split at h
   ·split at h
    ·exact Dd f _ _ q ER h
    ·cases h;exact ER
   ·cases h
theorem Nh{t:Bs}(h:singleR r=some (t,z)):Px t:=by
 unfold singleR at h;split at h
 ·rename_i hc;cases h;simp only[cF,Bool.not_eq_true']at hc;refine⟨_,_,rfl,fun e=>?_,?_,?_⟩
  ·rw[e]at hc;cases hc.1
  ·exact taken E5 r
  ·exact taken lj _
 ·cases h
theorem Pz{x:nt}(h:pk k r=.ok (x,z)):x.Ok/\k≠8:=by
 unfold pk at h;split at h
 ·cases h
 rename_i hw;have hw':=Db (show(ia r).isEmpty=false by simpa using hw);split at h
 ·cases h
 rename_i hk;refine⟨?_,hk⟩;split at h
 ·cases h;exact⟨hw',Or.inl rfl,aR,aR,aR⟩
 split at h
 ·cases h
 split at h
 ·rename_i q hq;cases h;exact⟨hw',Or.inr ⟨rfl,Nh (t:=q.1) (z:=q.2) hq⟩,aR,aR,aR⟩
 ·split at h
  ·cases h
  ·rename_i q hq;cases h;have:=Dd _ _ _ _ vM.nil hq;exact⟨hw',Or.inl rfl,this.tP,this.zg,this.apart⟩
theorem F0:∀(f:Nat) (acc:List nt) (r:Bs) (l:List nt),(∀x∈acc,x.Ok)->acc.length<=8->kf f acc r=.ok l->(∀x∈l,x.Ok)/\l.length<=8
 |0,acc,r,l,ha,hl,h=>by rw[kf]at h;cases h;exact⟨ha,hl⟩
 |f+1,acc,r,l,ha,hl,h=>by
  rw[kf]at h;split at h
  ·cases h;exact⟨ha,hl⟩
  ·cases ho:pk acc.length (iH r)with
   |error e=>rw[ho]at h;cases h
   |ok q =>
    obtain⟨x,r1⟩:=q;rw[ho]at h;obtain⟨h1,h2⟩:=Pz ho;simp only at h;refine F0 f _ r1 l ?_ ?_ h
    ·intro y hy;rcases bR.1 hy with g|g
     ·exact ha y g
     ·simp at g;subst g;exact h1
    ·simp;omega
theorem Kn{l:List nt}(h:mC r=.ok l):(∀x∈l,x.Ok)/\l.length<=8:=by
 unfold mC at h;split at h
 ·cases h
 ·exact F0 _ _ _ _ aR aR h
def QS(p:jz)(x:Bs):Bs:=p.1++61 :: x
def xo:List (jz×Bs)->Bs
 |[]=>[]
 |[p]=>QS p.1 p.2
 |p :: q :: l=>QS p.1 p.2++44 :: 32 :: xo (q :: l)
