/- TbNum, TbEnd. -/
import Derived.Test.YtpkkncoddhkfkaaGreatDoorPk6
set_option maxRecDepth 100000
set_option maxHeartbeats 16000000
set_option linter.unusedSimpArgs false
namespace Go.Proofs.YtpkkncoddhkfkaaGreatDoor
open Go.Proofs.Tryz
open Go.RowKit
variable {o:df} {k T ch nh i:Nat} {ah:Option Addr} {U:World}
def hH(o:df)(k:Nat):List (Nat×Nat):=([0,1,2,3].take k).filterMap fun i=>if(bd o).1.testBit i then some (if i=3 then 0 else o.part.toNat,i)else none
theorem dn(hk:k<4)(hb:(bd o).1.testBit k=false):hH o (k+1)=hH o k:=by
 rcases(show k=0\/k=1\/k=2\/k=3 from ab)with rfl|rfl|rfl|rfl<;>simp[hH,List.filterMap_cons,hb]
theorem nF(hk:k<4)(hb:(bd o).1.testBit k=true):hH o (k+1)=hH o k++[(if k=3 then 0 else o.part.toNat,k)]:=by
 rcases(show k=0\/k=1\/k=2\/k=3 from ab)with rfl|rfl|rfl|rfl
 ·simp[hH,hb]
 ·have e:∀f:Nat->Option (Nat×Nat),([0,1]:List Nat).filterMap f=[0].filterMap f++[1].filterMap f:=fun f=>cB (l:=[0]) (l':=[1]);simp only[hH,List.take];rw[e];simp[hb]
 ·have e:∀f:Nat->Option (Nat×Nat),([0,1,2]:List Nat).filterMap f=[0,1].filterMap f++[2].filterMap f:=fun f=>cB (l:=[0,1]) (l':=[2]);simp only[hH,List.take];rw[e];simp[hb]
 ·have e:∀f:Nat->Option (Nat×Nat),([0,1,2,3]:List Nat).filterMap f=[0,1,2].filterMap f++[3].filterMap f:=fun f=>cB (l:=[0,1,2]) (l':=[3]);simp only[hH,List.take];rw[e];simp[hb]
theorem qT(o:df)(k:Nat):∃r,dw o=hH o k++r:=⟨([0,1,2,3].drop k).filterMap fun i=>if(bd o).1.testBit i then some (if i=3 then 0 else o.part.toNat,i)else none,by
 unfold hH dw;rw[<-cB,List.take_append_drop]⟩
theorem tJ(hk:k<4)(hb:(bd o).1.testBit k=true):∃r,dw o=hH o k++(if k=3 then 0 else o.part.toNat,k) :: r:=by
 obtain⟨r,hr⟩:=qT o (k+1);exact⟨r,by rw[hr,nF hk hb,cD,cA]⟩
theorem o8(o:df):(bd o).1=0\/(((bd o).1=1\/(bd o).1=4\/(bd o).1=7\/(bd o).1=8\/(bd o).1=10)/\o.right=true):=by
 cases hr:o.right
 ·exact Or.inl (by rw[kV hr])
 ·unfold bd;rw[hr];simp only[bD]
  repeat' split
  all_goals simp
def iY(R:List (Nat×Nat)->World->Prop)(o:df)(bx:Nat)(X:Array Value)(i:Value)(wr:World):Prop :=
 ∃k:Nat,k<=4/\i=.int .i64 k/\R (hH o k) wr/\wr.heap[bx]?=some (.cells X 35 (0,0))
def ey(R:List (Nat×Nat)->World->Prop)(o:df)(T g:Nat)(cap:Array Value):Prop :=
 ∀d c r,dw o=d++c :: r->∀V:World,R d V->Calls prog g (#[.pointer (some ⟨T,1+c.1*4+c.2,none⟩)]++cap) V fun e w'=>e=.returned (.tuple #[])/\R (d++[c]) w'/\∀(n:Nat) (k:Array Value),V.heap[n]?=some (.cells k 35 (0,0))->w'.heap[n]?=some (.cells k 35 (0,0))
theorem eO{R:List (Nat×Nat)->World->Prop}{g:Nat}{cap:Array Value}{bx:Nat}{X:Array Value}(aF:ey R o T g cap)(hk:k<4)(hb:(bd o).1.testBit k=true){p:Nat}(hp:(if k=3 then 0 else o.part.toNat)=p){V:World}(hR:R (hH o k) V)(ma:V.heap[bx]?=some (.cells X 35 (0,0))) :
  Calls prog g (#[.pointer (some ⟨T,1+p*4+k,none⟩)]++cap) V fun e w'=>e=.returned (.tuple #[])/\R (hH o (k+1)) w'/\w'.heap[bx]?=some (.cells X 35 (0,0)):=by
 obtain⟨r,hr⟩:=tJ hk hb;rw[hp]at hr;refine(aF _ _ _ hr V hR).mono ?_;rintro e w'⟨h1,h2,h3⟩;rw[nF hk hb,hp];exact⟨h1,h2,h3 _ _ ma⟩
theorem qU(U:World)(T:Nat)(o:dK)(hs:List dP)(g:Nat)(cap:Array Value)(_eg:∀args w,(callFunc g args).run prog w=.ok (.enter g args) w)(R:List (Nat×Nat)->World->Prop)(h0:R [] U)(dU:∀d V V',R d V->Fr aU V V'->R d V')(aF:ey R (o.cH hs) T g cap)(ho:dL U o hs)(hc:(bd (o.cH hs)).1=0) :
  Calls prog 42 #[.pointer (some ⟨T,0,none⟩),.agg o.cells.toArray,.func (.func g) #[] cap] U fun e w'=>e=.returned (.tuple #[])/\R (dw (o.cH hs)) w':=by
 obtain⟨ah,ch,eK⟩:=ho.ew;obtain⟨x1,dT⟩:∃x1,x1=U.alloc (.cells o.cells.toArray 35):=⟨_,rfl⟩;have dt:Fr aU U x1:=by rw[dT];exact(Fr.refl aU U).alloc _
 have HK:=O (show x1.heap[U.heap.size]?=some (.cells o.cells.toArray 35 (0,0))by rw[dT];exact aB _ _);have HC:=O (eo x1 o hs (ho.dv dt));have jD:=O (dU _ _ _ h0 dt);have cg:=O aF;have jx:=O dU;rw[hc]at HC;have iv:=O hc;rw[dz eK]at dT HK HC ⊢;have HX:=O dT;have o6:=O eK;clear eK dt dT aF dU h0 ho hc;go_enter func42,ntmps42
 have ku:=O (aB U (.cells #[.int .i64 o.what,.int .i64 o.ak.part,.bool o.ak.bg.ao,.string o.ak.bg.host,.int .i64 o.ak.bg.port,.bool o.ak.o.ao,.string o.ak.o.host,.int .i64 o.ak.o.port,.string o.ak.path,.string o.ak.query,.string o.ak.method,.slice ah hs.length ch,.bool o.ak.dB,.string o.ak.body,.bool o.proxy,.string o.text,.string o.user,.string o.pass,.string o.aW,.int .i64 o.cert,.bool o.all,.int .i64 o.n] 35))
 go_wp2_with (first|((with_reducible refine dC 11 ?_);go_must(refine wpList_load_row rfl 35 (.tmp 4) rfl U.heap.size rfl _ #[.int .i64 o.what,.int .i64 o.ak.part,.bool o.ak.bg.ao,.string o.ak.bg.host,.int .i64 o.ak.bg.port,.bool o.ak.o.ao,.string o.ak.o.host,.int .i64 o.ak.o.port,.string o.ak.path,.string o.ak.query,.string o.ak.method,.slice ah hs.length ch,.bool o.ak.dB,.string o.ak.body,.bool o.proxy,.string o.text,.string o.user,.string o.pass,.string o.aW,.int .i64 o.cert,.bool o.all,.int .i64 o.n] (0,0) _ ku.o underlying35 rfl af ?_))|fail)
 rw[<-HX.o];refine HC.o.mono ?_;rintro e u⟨rfl,hu⟩;have kt:=O (jx.o _ _ _ jD.o hu);have kI:=O (hu.keep HK.o (fun h=>h));clear hu jD HK HC HX ku;generalize U.heap.size=bx at *
 go_wp2
 go_loopw[15] (iY R (o.cH hs) bx #[.int .i64 o.what,.int .i64 o.ak.part,.bool o.ak.bg.ao,.string o.ak.bg.host,.int .i64 o.ak.bg.port,.bool o.ak.o.ao,.string o.ak.o.host,.int .i64 o.ak.o.port,.string o.ak.path,.string o.ak.query,.string o.ak.method,.slice ah hs.length ch,.bool o.ak.dB,.string o.ak.body,.bool o.proxy,.string o.text,.string o.user,.string o.pass,.string o.aW,.int .i64 o.cert,.bool o.all,.int .i64 o.n]) (fun i _=>4-(intOf i).toNat)
 case atStart=>exact⟨0,az _,rfl,kt.o,kI.o⟩
 case round =>
  obtain⟨k,hk,rfl,hR,ma⟩:=hrel;clear kt kI;have HR:=O hR;have HB:=O ma;clear hR ma;rcases(show k=0\/k=1\/k=2\/k=3\/k=4 from ab)with rfl|rfl|rfl|rfl|rfl
  ·have HN:=O (dn (o:=o.cH hs) (k:=0) ae (by rw[iv.o];decide));go_wp2;go_roundw
   case rel=>exact⟨1,ab,bn,by rw[HN.o];exact HR.o,HB.o⟩
   case measure=>simp[intOf]
  ·have HN:=O (dn (o:=o.cH hs) (k:=1) ae (by rw[iv.o];decide));go_wp2;go_roundw
   case rel=>exact⟨2,ab,bn,by rw[HN.o];exact HR.o,HB.o⟩
   case measure=>simp[intOf]
  ·have HN:=O (dn (o:=o.cH hs) (k:=2) ae (by rw[iv.o];decide));go_wp2;go_roundw
   case rel=>exact⟨3,ab,bn,by rw[HN.o];exact HR.o,HB.o⟩
   case measure=>simp[intOf]
  ·have HN:=O (dn (o:=o.cH hs) (k:=3) ae (by rw[iv.o];decide));go_wp2;go_roundw
   case rel=>exact⟨4,ab,bn,by rw[HN.o];exact HR.o,HB.o⟩
   case measure=>simp[intOf]
  ·go_wp2;go_end0;exact⟨rfl,HR.o⟩
theorem qV(U:World)(T:Nat)(o:dK)(hs:List dP)(g:Nat)(cap:Array Value)(eg:∀args w,(callFunc g args).run prog w=.ok (.enter g args) w)(R:List (Nat×Nat)->World->Prop)(h0:R [] U)(dU:∀d V V',R d V->Fr aU V V'->R d V')(aF:ey R (o.cH hs) T g cap)(ho:dL U o hs)(hc:(bd (o.cH hs)).1=1)(hr:(o.cH hs).right=true) :
  Calls prog 42 #[.pointer (some ⟨T,0,none⟩),.agg o.cells.toArray,.func (.func g) #[] cap] U fun e w'=>e=.returned (.tuple #[])/\R (dw (o.cH hs)) w':=by
 obtain⟨ah,ch,eK⟩:=ho.ew;obtain⟨x1,dT⟩:∃x1,x1=U.alloc (.cells o.cells.toArray 35):=⟨_,rfl⟩;have dt:Fr aU U x1:=by rw[dT];exact(Fr.refl aU U).alloc _
 have HK:=O (show x1.heap[U.heap.size]?=some (.cells o.cells.toArray 35 (0,0))by rw[dT];exact aB _ _);have HC:=O (eo x1 o hs (ho.dv dt));have jD:=O (dU _ _ _ h0 dt);have cg:=O aF;have jx:=O dU;rw[hc]at HC;have iv:=O hc;obtain⟨p0,p4⟩:=eb hr;obtain⟨p,hp⟩:∃p:Nat,o.ak.part=(p:Int):=⟨o.ak.part.toNat,by have:(o.cH hs).part=o.ak.part:=rfl;omega⟩;have DD:p<4:=by have:(o.cH hs).part=o.ak.part:=rfl;omega
 have HP:=O hp;have rI:=O (show(o.cH hs).part.toNat=p by have:(o.cH hs).part=o.ak.part:=rfl;omega);have q1:(p:Int)<4:=ab;have q2:(0:Int)<=(p:Int):=ab;have q3:¬(p:Int)<0:=ab;have q4:¬(4:Int)<=(p:Int):=ab;rw[dz eK]at dT HK HC ⊢;have HX:=O dT;have o6:=O eK;clear eK dt dT aF dU h0 ho hc hr p0 p4 hp;go_enter func42,ntmps42
 have ku:=O (aB U (.cells #[.int .i64 o.what,.int .i64 o.ak.part,.bool o.ak.bg.ao,.string o.ak.bg.host,.int .i64 o.ak.bg.port,.bool o.ak.o.ao,.string o.ak.o.host,.int .i64 o.ak.o.port,.string o.ak.path,.string o.ak.query,.string o.ak.method,.slice ah hs.length ch,.bool o.ak.dB,.string o.ak.body,.bool o.proxy,.string o.text,.string o.user,.string o.pass,.string o.aW,.int .i64 o.cert,.bool o.all,.int .i64 o.n] 35))
 go_wp2_with (first|((with_reducible refine dC 11 ?_);go_must(refine wpList_load_row rfl 35 (.tmp 4) rfl U.heap.size rfl _ #[.int .i64 o.what,.int .i64 o.ak.part,.bool o.ak.bg.ao,.string o.ak.bg.host,.int .i64 o.ak.bg.port,.bool o.ak.o.ao,.string o.ak.o.host,.int .i64 o.ak.o.port,.string o.ak.path,.string o.ak.query,.string o.ak.method,.slice ah hs.length ch,.bool o.ak.dB,.string o.ak.body,.bool o.proxy,.string o.text,.string o.user,.string o.pass,.string o.aW,.int .i64 o.cert,.bool o.all,.int .i64 o.n] (0,0) _ ku.o underlying35 rfl af ?_))|fail)
 rw[<-HX.o];refine HC.o.mono ?_;rintro e u⟨rfl,hu⟩;have kt:=O (jx.o _ _ _ jD.o hu);have kI:=O (hu.keep HK.o (fun h=>h));clear hu jD HK HC HX ku;generalize U.heap.size=bx at *
 go_wp2
 go_loopw[15] (iY R (o.cH hs) bx #[.int .i64 o.what,.int .i64 o.ak.part,.bool o.ak.bg.ao,.string o.ak.bg.host,.int .i64 o.ak.bg.port,.bool o.ak.o.ao,.string o.ak.o.host,.int .i64 o.ak.o.port,.string o.ak.path,.string o.ak.query,.string o.ak.method,.slice ah hs.length ch,.bool o.ak.dB,.string o.ak.body,.bool o.proxy,.string o.text,.string o.user,.string o.pass,.string o.aW,.int .i64 o.cert,.bool o.all,.int .i64 o.n]) (fun i _=>4-(intOf i).toNat)
 case atStart=>exact⟨0,az _,rfl,kt.o,kI.o⟩
 case round =>
  obtain⟨k,hk,rfl,hR,ma⟩:=hrel;clear kt kI;have HR:=O hR;have HB:=O ma;clear hR ma;have c1:wr.cell? ⟨bx,1,none⟩=some (.int .i64 p):=by simp[World.cell?,HB.o,HP.o]
  rcases(show k=0\/k=1\/k=2\/k=3\/k=4 from ab)with rfl|rfl|rfl|rfl|rfl
  ·have fl:=O (eO (p:=p) cg.o (k:=0) ae (by rw[iv.o];decide) ((aj ae).trans rI.o) HR.o HB.o);clear HR HB;go_wp2_with fail
   refine fl.o.mono ?_;rintro e w1⟨rfl,g1,g2⟩;go_wp2;go_roundw
   case rel=>exact⟨1,ab,bn,g1,g2⟩
   case measure=>simp[intOf]
  ·have HN:=O (dn (o:=o.cH hs) (k:=1) ae (by rw[iv.o];decide));go_wp2;go_roundw
   case rel=>exact⟨2,ab,bn,by rw[HN.o];exact HR.o,HB.o⟩
   case measure=>simp[intOf]
  ·have HN:=O (dn (o:=o.cH hs) (k:=2) ae (by rw[iv.o];decide));go_wp2;go_roundw
   case rel=>exact⟨3,ab,bn,by rw[HN.o];exact HR.o,HB.o⟩
   case measure=>simp[intOf]
  ·have HN:=O (dn (o:=o.cH hs) (k:=3) ae (by rw[iv.o];decide));go_wp2;go_roundw
   case rel=>exact⟨4,ab,bn,by rw[HN.o];exact HR.o,HB.o⟩
   case measure=>simp[intOf]
  ·go_wp2;go_end0;exact⟨rfl,HR.o⟩
theorem qW(U:World)(T:Nat)(o:dK)(hs:List dP)(g:Nat)(cap:Array Value)(eg:∀args w,(callFunc g args).run prog w=.ok (.enter g args) w)(R:List (Nat×Nat)->World->Prop)(h0:R [] U)(dU:∀d V V',R d V->Fr aU V V'->R d V')(aF:ey R (o.cH hs) T g cap)(ho:dL U o hs)(hc:(bd (o.cH hs)).1=4)(hr:(o.cH hs).right=true) :
  Calls prog 42 #[.pointer (some ⟨T,0,none⟩),.agg o.cells.toArray,.func (.func g) #[] cap] U fun e w'=>e=.returned (.tuple #[])/\R (dw (o.cH hs)) w':=by
 obtain⟨ah,ch,eK⟩:=ho.ew;obtain⟨x1,dT⟩:∃x1,x1=U.alloc (.cells o.cells.toArray 35):=⟨_,rfl⟩;have dt:Fr aU U x1:=by rw[dT];exact(Fr.refl aU U).alloc _
 have HK:=O (show x1.heap[U.heap.size]?=some (.cells o.cells.toArray 35 (0,0))by rw[dT];exact aB _ _);have HC:=O (eo x1 o hs (ho.dv dt));have jD:=O (dU _ _ _ h0 dt);have cg:=O aF;have jx:=O dU;rw[hc]at HC;have iv:=O hc;obtain⟨p0,p4⟩:=eb hr;obtain⟨p,hp⟩:∃p:Nat,o.ak.part=(p:Int):=⟨o.ak.part.toNat,by have:(o.cH hs).part=o.ak.part:=rfl;omega⟩;have DD:p<4:=by have:(o.cH hs).part=o.ak.part:=rfl;omega
 have HP:=O hp;have rI:=O (show(o.cH hs).part.toNat=p by have:(o.cH hs).part=o.ak.part:=rfl;omega);have q1:(p:Int)<4:=ab;have q2:(0:Int)<=(p:Int):=ab;have q3:¬(p:Int)<0:=ab;have q4:¬(4:Int)<=(p:Int):=ab;rw[dz eK]at dT HK HC ⊢;have HX:=O dT;have o6:=O eK;clear eK dt dT aF dU h0 ho hc hr p0 p4 hp;go_enter func42,ntmps42
 have ku:=O (aB U (.cells #[.int .i64 o.what,.int .i64 o.ak.part,.bool o.ak.bg.ao,.string o.ak.bg.host,.int .i64 o.ak.bg.port,.bool o.ak.o.ao,.string o.ak.o.host,.int .i64 o.ak.o.port,.string o.ak.path,.string o.ak.query,.string o.ak.method,.slice ah hs.length ch,.bool o.ak.dB,.string o.ak.body,.bool o.proxy,.string o.text,.string o.user,.string o.pass,.string o.aW,.int .i64 o.cert,.bool o.all,.int .i64 o.n] 35))
 go_wp2_with (first|((with_reducible refine dC 11 ?_);go_must(refine wpList_load_row rfl 35 (.tmp 4) rfl U.heap.size rfl _ #[.int .i64 o.what,.int .i64 o.ak.part,.bool o.ak.bg.ao,.string o.ak.bg.host,.int .i64 o.ak.bg.port,.bool o.ak.o.ao,.string o.ak.o.host,.int .i64 o.ak.o.port,.string o.ak.path,.string o.ak.query,.string o.ak.method,.slice ah hs.length ch,.bool o.ak.dB,.string o.ak.body,.bool o.proxy,.string o.text,.string o.user,.string o.pass,.string o.aW,.int .i64 o.cert,.bool o.all,.int .i64 o.n] (0,0) _ ku.o underlying35 rfl af ?_))|fail)
 rw[<-HX.o];refine HC.o.mono ?_;rintro e u⟨rfl,hu⟩;have kt:=O (jx.o _ _ _ jD.o hu);have kI:=O (hu.keep HK.o (fun h=>h));clear hu jD HK HC HX ku;generalize U.heap.size=bx at *
 go_wp2
 go_loopw[15] (iY R (o.cH hs) bx #[.int .i64 o.what,.int .i64 o.ak.part,.bool o.ak.bg.ao,.string o.ak.bg.host,.int .i64 o.ak.bg.port,.bool o.ak.o.ao,.string o.ak.o.host,.int .i64 o.ak.o.port,.string o.ak.path,.string o.ak.query,.string o.ak.method,.slice ah hs.length ch,.bool o.ak.dB,.string o.ak.body,.bool o.proxy,.string o.text,.string o.user,.string o.pass,.string o.aW,.int .i64 o.cert,.bool o.all,.int .i64 o.n]) (fun i _=>4-(intOf i).toNat)
 case atStart=>exact⟨0,az _,rfl,kt.o,kI.o⟩
 case round =>
  obtain⟨k,hk,rfl,hR,ma⟩:=hrel;clear kt kI;have HR:=O hR;have HB:=O ma;clear hR ma;have c1:wr.cell? ⟨bx,1,none⟩=some (.int .i64 p):=by simp[World.cell?,HB.o,HP.o]
  rcases(show k=0\/k=1\/k=2\/k=3\/k=4 from ab)with rfl|rfl|rfl|rfl|rfl
  ·have HN:=O (dn (o:=o.cH hs) (k:=0) ae (by rw[iv.o];decide));go_wp2;go_roundw
   case rel=>exact⟨1,ab,bn,by rw[HN.o];exact HR.o,HB.o⟩
   case measure=>simp[intOf]
  ·have HN:=O (dn (o:=o.cH hs) (k:=1) ae (by rw[iv.o];decide));go_wp2;go_roundw
   case rel=>exact⟨2,ab,bn,by rw[HN.o];exact HR.o,HB.o⟩
   case measure=>simp[intOf]
  ·have fl:=O (eO (p:=p) cg.o (k:=2) ae (by rw[iv.o];decide) ((aj ae).trans rI.o) HR.o HB.o);clear HR HB;go_wp2_with fail
   refine fl.o.mono ?_;rintro e w1⟨rfl,g1,g2⟩;go_wp2;go_roundw
   case rel=>exact⟨3,ab,bn,g1,g2⟩
   case measure=>simp[intOf]
  ·have HN:=O (dn (o:=o.cH hs) (k:=3) ae (by rw[iv.o];decide));go_wp2;go_roundw
   case rel=>exact⟨4,ab,bn,by rw[HN.o];exact HR.o,HB.o⟩
   case measure=>simp[intOf]
  ·go_wp2;go_end0;exact⟨rfl,HR.o⟩
theorem qX(U:World)(T:Nat)(o:dK)(hs:List dP)(g:Nat)(cap:Array Value)(eg:∀args w,(callFunc g args).run prog w=.ok (.enter g args) w)(R:List (Nat×Nat)->World->Prop)(h0:R [] U)(dU:∀d V V',R d V->Fr aU V V'->R d V')(aF:ey R (o.cH hs) T g cap)(ho:dL U o hs)(hc:(bd (o.cH hs)).1=7)(hr:(o.cH hs).right=true) :
  Calls prog 42 #[.pointer (some ⟨T,0,none⟩),.agg o.cells.toArray,.func (.func g) #[] cap] U fun e w'=>e=.returned (.tuple #[])/\R (dw (o.cH hs)) w':=by
 obtain⟨ah,ch,eK⟩:=ho.ew;obtain⟨x1,dT⟩:∃x1,x1=U.alloc (.cells o.cells.toArray 35):=⟨_,rfl⟩;have dt:Fr aU U x1:=by rw[dT];exact(Fr.refl aU U).alloc _
 have HK:=O (show x1.heap[U.heap.size]?=some (.cells o.cells.toArray 35 (0,0))by rw[dT];exact aB _ _);have HC:=O (eo x1 o hs (ho.dv dt));have jD:=O (dU _ _ _ h0 dt);have cg:=O aF;have jx:=O dU;rw[hc]at HC;have iv:=O hc;obtain⟨p0,p4⟩:=eb hr;obtain⟨p,hp⟩:∃p:Nat,o.ak.part=(p:Int):=⟨o.ak.part.toNat,by have:(o.cH hs).part=o.ak.part:=rfl;omega⟩;have DD:p<4:=by have:(o.cH hs).part=o.ak.part:=rfl;omega
 have HP:=O hp;have rI:=O (show(o.cH hs).part.toNat=p by have:(o.cH hs).part=o.ak.part:=rfl;omega);have q1:(p:Int)<4:=ab;have q2:(0:Int)<=(p:Int):=ab;have q3:¬(p:Int)<0:=ab;have q4:¬(4:Int)<=(p:Int):=ab;rw[dz eK]at dT HK HC ⊢;have HX:=O dT;have o6:=O eK;clear eK dt dT aF dU h0 ho hc hr p0 p4 hp;go_enter func42,ntmps42
 have ku:=O (aB U (.cells #[.int .i64 o.what,.int .i64 o.ak.part,.bool o.ak.bg.ao,.string o.ak.bg.host,.int .i64 o.ak.bg.port,.bool o.ak.o.ao,.string o.ak.o.host,.int .i64 o.ak.o.port,.string o.ak.path,.string o.ak.query,.string o.ak.method,.slice ah hs.length ch,.bool o.ak.dB,.string o.ak.body,.bool o.proxy,.string o.text,.string o.user,.string o.pass,.string o.aW,.int .i64 o.cert,.bool o.all,.int .i64 o.n] 35))
 go_wp2_with (first|((with_reducible refine dC 11 ?_);go_must(refine wpList_load_row rfl 35 (.tmp 4) rfl U.heap.size rfl _ #[.int .i64 o.what,.int .i64 o.ak.part,.bool o.ak.bg.ao,.string o.ak.bg.host,.int .i64 o.ak.bg.port,.bool o.ak.o.ao,.string o.ak.o.host,.int .i64 o.ak.o.port,.string o.ak.path,.string o.ak.query,.string o.ak.method,.slice ah hs.length ch,.bool o.ak.dB,.string o.ak.body,.bool o.proxy,.string o.text,.string o.user,.string o.pass,.string o.aW,.int .i64 o.cert,.bool o.all,.int .i64 o.n] (0,0) _ ku.o underlying35 rfl af ?_))|fail)
 rw[<-HX.o];refine HC.o.mono ?_;rintro e u⟨rfl,hu⟩;have kt:=O (jx.o _ _ _ jD.o hu);have kI:=O (hu.keep HK.o (fun h=>h));clear hu jD HK HC HX ku;generalize U.heap.size=bx at *
 go_wp2
 go_loopw[15] (iY R (o.cH hs) bx #[.int .i64 o.what,.int .i64 o.ak.part,.bool o.ak.bg.ao,.string o.ak.bg.host,.int .i64 o.ak.bg.port,.bool o.ak.o.ao,.string o.ak.o.host,.int .i64 o.ak.o.port,.string o.ak.path,.string o.ak.query,.string o.ak.method,.slice ah hs.length ch,.bool o.ak.dB,.string o.ak.body,.bool o.proxy,.string o.text,.string o.user,.string o.pass,.string o.aW,.int .i64 o.cert,.bool o.all,.int .i64 o.n]) (fun i _=>4-(intOf i).toNat)
 case atStart=>exact⟨0,az _,rfl,kt.o,kI.o⟩
 case round =>
  obtain⟨k,hk,rfl,hR,ma⟩:=hrel;clear kt kI;have HR:=O hR;have HB:=O ma;clear hR ma;have c1:wr.cell? ⟨bx,1,none⟩=some (.int .i64 p):=by simp[World.cell?,HB.o,HP.o]
  rcases(show k=0\/k=1\/k=2\/k=3\/k=4 from ab)with rfl|rfl|rfl|rfl|rfl
  ·have fl:=O (eO (p:=p) cg.o (k:=0) ae (by rw[iv.o];decide) ((aj ae).trans rI.o) HR.o HB.o);clear HR HB;go_wp2_with fail
   refine fl.o.mono ?_;rintro e w1⟨rfl,g1,g2⟩;go_wp2;go_roundw
   case rel=>exact⟨1,ab,bn,g1,g2⟩
   case measure=>simp[intOf]
  ·have fl:=O (eO (p:=p) cg.o (k:=1) ae (by rw[iv.o];decide) ((aj ae).trans rI.o) HR.o HB.o);clear HR HB;go_wp2_with fail
   refine fl.o.mono ?_;rintro e w1⟨rfl,g1,g2⟩;go_wp2;go_roundw
   case rel=>exact⟨2,ab,bn,g1,g2⟩
   case measure=>simp[intOf]
  ·have fl:=O (eO (p:=p) cg.o (k:=2) ae (by rw[iv.o];decide) ((aj ae).trans rI.o) HR.o HB.o);clear HR HB;go_wp2_with fail
   refine fl.o.mono ?_;rintro e w1⟨rfl,g1,g2⟩;go_wp2;go_roundw
   case rel=>exact⟨3,ab,bn,g1,g2⟩
   case measure=>simp[intOf]
  ·have HN:=O (dn (o:=o.cH hs) (k:=3) ae (by rw[iv.o];decide));go_wp2;go_roundw
   case rel=>exact⟨4,ab,bn,by rw[HN.o];exact HR.o,HB.o⟩
   case measure=>simp[intOf]
  ·go_wp2;go_end0;exact⟨rfl,HR.o⟩
theorem qY(U:World)(T:Nat)(o:dK)(hs:List dP)(g:Nat)(cap:Array Value)(eg:∀args w,(callFunc g args).run prog w=.ok (.enter g args) w)(R:List (Nat×Nat)->World->Prop)(h0:R [] U)(dU:∀d V V',R d V->Fr aU V V'->R d V')(aF:ey R (o.cH hs) T g cap)(ho:dL U o hs)(hc:(bd (o.cH hs)).1=8)(hr:(o.cH hs).right=true) :
  Calls prog 42 #[.pointer (some ⟨T,0,none⟩),.agg o.cells.toArray,.func (.func g) #[] cap] U fun e w'=>e=.returned (.tuple #[])/\R (dw (o.cH hs)) w':=by
 obtain⟨ah,ch,eK⟩:=ho.ew;obtain⟨x1,dT⟩:∃x1,x1=U.alloc (.cells o.cells.toArray 35):=⟨_,rfl⟩;have dt:Fr aU U x1:=by rw[dT];exact(Fr.refl aU U).alloc _
 have HK:=O (show x1.heap[U.heap.size]?=some (.cells o.cells.toArray 35 (0,0))by rw[dT];exact aB _ _);have HC:=O (eo x1 o hs (ho.dv dt));have jD:=O (dU _ _ _ h0 dt);have cg:=O aF;have jx:=O dU;rw[hc]at HC;have iv:=O hc;obtain⟨p0,p4⟩:=eb hr;obtain⟨p,hp⟩:∃p:Nat,o.ak.part=(p:Int):=⟨o.ak.part.toNat,by have:(o.cH hs).part=o.ak.part:=rfl;omega⟩;have DD:p<4:=by have:(o.cH hs).part=o.ak.part:=rfl;omega
 have HP:=O hp;have rI:=O (show(o.cH hs).part.toNat=p by have:(o.cH hs).part=o.ak.part:=rfl;omega);have q1:(p:Int)<4:=ab;have q2:(0:Int)<=(p:Int):=ab;have q3:¬(p:Int)<0:=ab;have q4:¬(4:Int)<=(p:Int):=ab;rw[dz eK]at dT HK HC ⊢;have HX:=O dT;have o6:=O eK;clear eK dt dT aF dU h0 ho hc hr p0 p4 hp;go_enter func42,ntmps42
 have ku:=O (aB U (.cells #[.int .i64 o.what,.int .i64 o.ak.part,.bool o.ak.bg.ao,.string o.ak.bg.host,.int .i64 o.ak.bg.port,.bool o.ak.o.ao,.string o.ak.o.host,.int .i64 o.ak.o.port,.string o.ak.path,.string o.ak.query,.string o.ak.method,.slice ah hs.length ch,.bool o.ak.dB,.string o.ak.body,.bool o.proxy,.string o.text,.string o.user,.string o.pass,.string o.aW,.int .i64 o.cert,.bool o.all,.int .i64 o.n] 35))
 go_wp2_with (first|((with_reducible refine dC 11 ?_);go_must(refine wpList_load_row rfl 35 (.tmp 4) rfl U.heap.size rfl _ #[.int .i64 o.what,.int .i64 o.ak.part,.bool o.ak.bg.ao,.string o.ak.bg.host,.int .i64 o.ak.bg.port,.bool o.ak.o.ao,.string o.ak.o.host,.int .i64 o.ak.o.port,.string o.ak.path,.string o.ak.query,.string o.ak.method,.slice ah hs.length ch,.bool o.ak.dB,.string o.ak.body,.bool o.proxy,.string o.text,.string o.user,.string o.pass,.string o.aW,.int .i64 o.cert,.bool o.all,.int .i64 o.n] (0,0) _ ku.o underlying35 rfl af ?_))|fail)
 rw[<-HX.o];refine HC.o.mono ?_;rintro e u⟨rfl,hu⟩;have kt:=O (jx.o _ _ _ jD.o hu);have kI:=O (hu.keep HK.o (fun h=>h));clear hu jD HK HC HX ku;generalize U.heap.size=bx at *
 go_wp2
 go_loopw[15] (iY R (o.cH hs) bx #[.int .i64 o.what,.int .i64 o.ak.part,.bool o.ak.bg.ao,.string o.ak.bg.host,.int .i64 o.ak.bg.port,.bool o.ak.o.ao,.string o.ak.o.host,.int .i64 o.ak.o.port,.string o.ak.path,.string o.ak.query,.string o.ak.method,.slice ah hs.length ch,.bool o.ak.dB,.string o.ak.body,.bool o.proxy,.string o.text,.string o.user,.string o.pass,.string o.aW,.int .i64 o.cert,.bool o.all,.int .i64 o.n]) (fun i _=>4-(intOf i).toNat)
 case atStart=>exact⟨0,az _,rfl,kt.o,kI.o⟩
 case round =>
  obtain⟨k,hk,rfl,hR,ma⟩:=hrel;clear kt kI;have HR:=O hR;have HB:=O ma;clear hR ma;have c1:wr.cell? ⟨bx,1,none⟩=some (.int .i64 p):=by simp[World.cell?,HB.o,HP.o]
  rcases(show k=0\/k=1\/k=2\/k=3\/k=4 from ab)with rfl|rfl|rfl|rfl|rfl
  ·have HN:=O (dn (o:=o.cH hs) (k:=0) ae (by rw[iv.o];decide));go_wp2;go_roundw
   case rel=>exact⟨1,ab,bn,by rw[HN.o];exact HR.o,HB.o⟩
   case measure=>simp[intOf]
  ·have HN:=O (dn (o:=o.cH hs) (k:=1) ae (by rw[iv.o];decide));go_wp2;go_roundw
   case rel=>exact⟨2,ab,bn,by rw[HN.o];exact HR.o,HB.o⟩
   case measure=>simp[intOf]
  ·have HN:=O (dn (o:=o.cH hs) (k:=2) ae (by rw[iv.o];decide));go_wp2;go_roundw
   case rel=>exact⟨3,ab,bn,by rw[HN.o];exact HR.o,HB.o⟩
   case measure=>simp[intOf]
  ·have fl:=O (eO (p:=0) cg.o (k:=3) ae (by rw[iv.o];decide) (aq rfl) HR.o HB.o);clear HR HB;go_wp2_with fail
   refine fl.o.mono ?_;rintro e w1⟨rfl,g1,g2⟩;go_wp2;go_roundw
   case rel=>exact⟨4,ab,bn,g1,g2⟩
   case measure=>simp[intOf]
  ·go_wp2;go_end0;exact⟨rfl,HR.o⟩
theorem o9(U:World)(T:Nat)(o:dK)(hs:List dP)(g:Nat)(cap:Array Value)(eg:∀args w,(callFunc g args).run prog w=.ok (.enter g args) w)(R:List (Nat×Nat)->World->Prop)(h0:R [] U)(dU:∀d V V',R d V->Fr aU V V'->R d V')(aF:ey R (o.cH hs) T g cap)(ho:dL U o hs)(hc:(bd (o.cH hs)).1=10)(hr:(o.cH hs).right=true) :
  Calls prog 42 #[.pointer (some ⟨T,0,none⟩),.agg o.cells.toArray,.func (.func g) #[] cap] U fun e w'=>e=.returned (.tuple #[])/\R (dw (o.cH hs)) w':=by
 obtain⟨ah,ch,eK⟩:=ho.ew;obtain⟨x1,dT⟩:∃x1,x1=U.alloc (.cells o.cells.toArray 35):=⟨_,rfl⟩;have dt:Fr aU U x1:=by rw[dT];exact(Fr.refl aU U).alloc _
 have HK:=O (show x1.heap[U.heap.size]?=some (.cells o.cells.toArray 35 (0,0))by rw[dT];exact aB _ _);have HC:=O (eo x1 o hs (ho.dv dt));have jD:=O (dU _ _ _ h0 dt);have cg:=O aF;have jx:=O dU;rw[hc]at HC;have iv:=O hc;obtain⟨p0,p4⟩:=eb hr;obtain⟨p,hp⟩:∃p:Nat,o.ak.part=(p:Int):=⟨o.ak.part.toNat,by have:(o.cH hs).part=o.ak.part:=rfl;omega⟩;have DD:p<4:=by have:(o.cH hs).part=o.ak.part:=rfl;omega
 have HP:=O hp;have rI:=O (show(o.cH hs).part.toNat=p by have:(o.cH hs).part=o.ak.part:=rfl;omega);have q1:(p:Int)<4:=ab;have q2:(0:Int)<=(p:Int):=ab;have q3:¬(p:Int)<0:=ab;have q4:¬(4:Int)<=(p:Int):=ab;rw[dz eK]at dT HK HC ⊢;have HX:=O dT;have o6:=O eK;clear eK dt dT aF dU h0 ho hc hr p0 p4 hp;go_enter func42,ntmps42
 have ku:=O (aB U (.cells #[.int .i64 o.what,.int .i64 o.ak.part,.bool o.ak.bg.ao,.string o.ak.bg.host,.int .i64 o.ak.bg.port,.bool o.ak.o.ao,.string o.ak.o.host,.int .i64 o.ak.o.port,.string o.ak.path,.string o.ak.query,.string o.ak.method,.slice ah hs.length ch,.bool o.ak.dB,.string o.ak.body,.bool o.proxy,.string o.text,.string o.user,.string o.pass,.string o.aW,.int .i64 o.cert,.bool o.all,.int .i64 o.n] 35))
 go_wp2_with (first|((with_reducible refine dC 11 ?_);go_must(refine wpList_load_row rfl 35 (.tmp 4) rfl U.heap.size rfl _ #[.int .i64 o.what,.int .i64 o.ak.part,.bool o.ak.bg.ao,.string o.ak.bg.host,.int .i64 o.ak.bg.port,.bool o.ak.o.ao,.string o.ak.o.host,.int .i64 o.ak.o.port,.string o.ak.path,.string o.ak.query,.string o.ak.method,.slice ah hs.length ch,.bool o.ak.dB,.string o.ak.body,.bool o.proxy,.string o.text,.string o.user,.string o.pass,.string o.aW,.int .i64 o.cert,.bool o.all,.int .i64 o.n] (0,0) _ ku.o underlying35 rfl af ?_))|fail)
 rw[<-HX.o];refine HC.o.mono ?_;rintro e u⟨rfl,hu⟩;have kt:=O (jx.o _ _ _ jD.o hu);have kI:=O (hu.keep HK.o (fun h=>h));clear hu jD HK HC HX ku;generalize U.heap.size=bx at *
 go_wp2
 go_loopw[15] (iY R (o.cH hs) bx #[.int .i64 o.what,.int .i64 o.ak.part,.bool o.ak.bg.ao,.string o.ak.bg.host,.int .i64 o.ak.bg.port,.bool o.ak.o.ao,.string o.ak.o.host,.int .i64 o.ak.o.port,.string o.ak.path,.string o.ak.query,.string o.ak.method,.slice ah hs.length ch,.bool o.ak.dB,.string o.ak.body,.bool o.proxy,.string o.text,.string o.user,.string o.pass,.string o.aW,.int .i64 o.cert,.bool o.all,.int .i64 o.n]) (fun i _=>4-(intOf i).toNat)
 case atStart=>exact⟨0,az _,rfl,kt.o,kI.o⟩
 case round =>
  obtain⟨k,hk,rfl,hR,ma⟩:=hrel;clear kt kI;have HR:=O hR;have HB:=O ma;clear hR ma;have c1:wr.cell? ⟨bx,1,none⟩=some (.int .i64 p):=by simp[World.cell?,HB.o,HP.o]
  rcases(show k=0\/k=1\/k=2\/k=3\/k=4 from ab)with rfl|rfl|rfl|rfl|rfl
  ·have HN:=O (dn (o:=o.cH hs) (k:=0) ae (by rw[iv.o];decide));go_wp2;go_roundw
   case rel=>exact⟨1,ab,bn,by rw[HN.o];exact HR.o,HB.o⟩
   case measure=>simp[intOf]
  ·have fl:=O (eO (p:=p) cg.o (k:=1) ae (by rw[iv.o];decide) ((aj ae).trans rI.o) HR.o HB.o);clear HR HB;go_wp2_with fail
   refine fl.o.mono ?_;rintro e w1⟨rfl,g1,g2⟩;go_wp2;go_roundw
   case rel=>exact⟨2,ab,bn,g1,g2⟩
   case measure=>simp[intOf]
  ·have HN:=O (dn (o:=o.cH hs) (k:=2) ae (by rw[iv.o];decide));go_wp2;go_roundw
   case rel=>exact⟨3,ab,bn,by rw[HN.o];exact HR.o,HB.o⟩
   case measure=>simp[intOf]
  ·have fl:=O (eO (p:=0) cg.o (k:=3) ae (by rw[iv.o];decide) (aq rfl) HR.o HB.o);clear HR HB;go_wp2_with fail
   refine fl.o.mono ?_;rintro e w1⟨rfl,g1,g2⟩;go_wp2;go_roundw
   case rel=>exact⟨4,ab,bn,g1,g2⟩
   case measure=>simp[intOf]
  ·go_wp2;go_end0;exact⟨rfl,HR.o⟩
theorem gu(U:World)(T:Nat)(o:dK)(hs:List dP)(g:Nat)(cap:Array Value)(eg:∀args w,(callFunc g args).run prog w=.ok (.enter g args) w)(R:List (Nat×Nat)->World->Prop)(h0:R [] U)(dU:∀d V V',R d V->Fr aU V V'->R d V')(aF:ey R (o.cH hs) T g cap)(ho:dL U o hs) :
  Calls prog 42 #[.pointer (some ⟨T,0,none⟩),.agg o.cells.toArray,.func (.func g) #[] cap] U fun e w'=>e=.returned (.tuple #[])/\R (dw (o.cH hs)) w':=by
 rcases o8 (o.cH hs)with hc|⟨hc|hc|hc|hc|hc,hr⟩
 ·exact qU U T o hs g cap eg R h0 dU aF ho hc
 ·exact qV U T o hs g cap eg R h0 dU aF ho hc hr
 ·exact qW U T o hs g cap eg R h0 dU aF ho hc hr
 ·exact qX U T o hs g cap eg R h0 dU aF ho hc hr
 ·exact qY U T o hs g cap eg R h0 dU aF ho hc hr
 ·exact o9 U T o hs g cap eg R h0 dU aF ho hc hr
theorem cL{P:Program}{fn:Func}{p u v:Tmp}{ty:TypeId}(h:fn.results= #[.cell p ty,.tmp u,.tmp v])(tmps:Array Value)(w:World)(g:Nat)(t:TypeId)(cs:Array Value)(fr:Nat×Nat)(d:TypeDesc)
  (hp:tmps.getD p undef=.pointer (some ⟨g,0,none⟩))(hg:w.heap[g]?=some (.cells cs t fr))
  (hu:P.underlying ty=some d)(hd:(match d with| .struct _| .array _ _=>true|_=>false)=true)(hi:(P.info? ty).map (·.size)=some cs.size) :
  (results fn tmps).run P w=.ok (.tuple #[.agg cs,tmps.getD u undef,tmps.getD v undef]) w:=by
 have JX:tmps[p]?.getD undef=.pointer (some ⟨g,0,none⟩):=by simpa using hp
 simp[results,h,JX,asAddr,run_loadVar_row w g t ty cs fr d hg hu hd hi,Result.andThen]
def rJ(n:Nat)(o:dK)(ah:Option Addr)(nh ch:Nat)(r:dG)(dZ fin:Int):List Value:=[.int .i64 n,.int .i64 o.what,.int .i64 o.ak.part,.bool o.ak.bg.ao,.string o.ak.bg.host,.int .i64 o.ak.bg.port,.bool o.ak.o.ao,.string o.ak.o.host,.int .i64 o.ak.o.port,.string o.ak.path,.string o.ak.query,.string o.ak.method,.slice ah nh ch,.bool o.ak.dB,.string o.ak.body,.bool o.proxy,.string o.text,.string o.user,.string o.pass,.string o.aW,.int .i64 o.cert,.bool o.all,.int .i64 o.n,.int .i64 r.what,.string r.head,.int .i64 r.cert,.int .i64 dZ,.int .i64 fin]
theorem mb{n:Nat}{o:dK}{hs:List dP}(h:o.ak.bo=.slice ah hs.length ch)(op:df)(r:dG)(dZ fin:Int):nz (⟨n,op,r,dZ,fin⟩,(o,hs))=rJ n o ah hs.length ch r dZ fin:=by
 unfold nz dK.cells fe.cells;rw[h];rfl
theorem tK{o:dK}(h:o.ak.bo=.slice ah nh ch):o.cells=[.int .i64 o.what,.int .i64 o.ak.part,.bool o.ak.bg.ao,.string o.ak.bg.host,.int .i64 o.ak.bg.port,.bool o.ak.o.ao,.string o.ak.o.host,.int .i64 o.ak.o.port,.string o.ak.path,.string o.ak.query,.string o.ak.method,.slice ah nh ch,.bool o.ak.dB,.string o.ak.body,.bool o.proxy,.string o.text,.string o.user,.string o.pass,.string o.aW,.int .i64 o.cert,.bool o.all,.int .i64 o.n]:=by
 unfold dK.cells fe.cells;rw[h];rfl
theorem mf(n:Nat)(o:dK)(ah:Option Addr)(nh ch:Nat)(r:dG)(dZ fin:Int):∀u∈rJ n o ah nh ch r dZ fin,u.oneCell'=true:=by
 intro u hu;unfold rJ at hu;simp only[aD,aZ,ct]at hu;rcases hu with rfl|rfl|rfl|rfl|rfl|rfl|rfl|rfl|rfl|rfl|rfl|rfl|rfl|rfl|rfl|rfl|rfl|rfl|rfl|rfl|rfl|rfl|rfl|rfl|rfl|rfl|rfl|rfl<;>rfl
theorem wz(n:Nat)(o:dK)(ah:Option Addr)(nh ch:Nat)(r:dG)(dZ fin:Int):prog.built 80 [(0,.int .i64 n),(1,.agg #[.int .i64 o.what,.int .i64 o.ak.part,.bool o.ak.bg.ao,.string o.ak.bg.host,.int .i64 o.ak.bg.port,.bool o.ak.o.ao,.string o.ak.o.host,.int .i64 o.ak.o.port,.string o.ak.path,.string o.ak.query,.string o.ak.method,.slice ah nh ch,.bool o.ak.dB,.string o.ak.body,.bool o.proxy,.string o.text,.string o.user,.string o.pass,.string o.aW,.int .i64 o.cert,.bool o.all,.int .i64 o.n]),(2,.agg #[.int .i64 r.what,.string r.head,.int .i64 r.cert]),(3,.int .i64 dZ),(4,.int .i64 fin)]=some (rJ n o ah nh ch r dZ fin).toArray:=af
def kl:Array Value:= #[.int .i64 0,.int .i64 0,.int .i64 0,.bool false,.string ⟨#[]⟩,.int .i64 0,.bool false,.string ⟨#[]⟩,.int .i64 0,.string ⟨#[]⟩,.string ⟨#[]⟩,.string ⟨#[]⟩,.slice none 0 0,.bool false,.string ⟨#[]⟩,.bool false,.string ⟨#[]⟩,.string ⟨#[]⟩,.string ⟨#[]⟩,.string ⟨#[]⟩,.int .i64 0,.bool false,.int .i64 0,.int .i64 0,.string ⟨#[]⟩,.int .i64 0,.int .i64 0,.int .i64 0]
theorem mg:(prog.info? 80).map (fun i=>(i.zero,i.size,i.bytes))=some (some (.agg kl),28,328):=af
theorem o_(n:Nat)(o:dK)(ah:Option Addr)(nh ch:Nat)(r:dG)(dZ fin:Int):Instr.fill (fun i=>some (i*28,28)) ((Array.range (1*28)).map ((Value.agg kl).cells[· %(Value.agg kl).cells.size]!)) [(0,.agg (rJ n o ah nh ch r dZ fin).toArray)]=some (rJ n o ah nh ch r dZ fin).toArray:=af
theorem fU{P:Program}{ops:Array Oper}{o:Oper}{a:Act}{w:World}{K:Act->World->Prop}{Q:Exit->Act->World->Prop}{E:Prop}(uu:o.guard=none)(t e:TypeId)(len:Nat)(parts:Array (Nat×Operand))(ho:o.op=.buildSlice t len parts)
  (cells:Array Value)(ie:TypeInfo)(z:Value)(vs:List (Nat×Value))(he:(parts.map fun(i,x)=>(i,a.eval x)).toList=vs)
  (hu:P.underlying t=some (.slice e))(yX:P.info? e=some ie)(hz:ie.zero=some z)(oH:¬len*ie.size>2^24)(yY:¬len*ie.size=0)
  (hf:Instr.fill (fun i=>some (i*ie.size,ie.size)) ((Array.range (len*ie.size)).map (z.cells[· %z.cells.size]!)) vs=some cells)
  (h:K (a.put o.dst (.slice (some ⟨w.heap.size,0,none⟩) len len)) (w.alloc (.cells cells e))):if Region.wanted o (yielded ops a.tmps)=true then Oper.wp P o a w K Q else E:=by
 have hw:Region.wanted o (yielded ops a.tmps)=true:=by simp[Region.wanted,uu]
 rw[aq hw];exact wp_buildSlice t e len parts ho cells ie z hu yX hz oH yY (by rw[he];exact hf) h
theorem ep{b o:Nat}{p q r:List Value}(h:U.rangeAt b o (p++(q++r))):U.rangeAt b (o+p.length) q:=fun j v hj=>by
 have hl:=(List.getElem?_eq_some_iff.1 hj).1;have:=h (p.length+j) v (by rw[List.getElem?_append_right ab,show p.length+j-p.length=j from ab,List.getElem?_append_left hl];exact hj)
 rwa [<-Nat.add_assoc]at this
theorem hM{o:Nat}{cs:List Value}{v:Value}(h:U.rangeAt T o cs)(hk:o+cs.length<=k):(U.setCell ⟨T,k,none⟩ v).rangeAt T o cs:=World.rangeAt_setCells_apart h T k [v] (Or.inr (Or.inl hk))
section
variable {xw : Option (Nat × bu)} {a U U' : World} {T : Nat} {t : cX}
def wA(o:dK)(ah:Option Addr)(nh ch:Nat)(r:dG)(dZ steps:Int)(i T R:Nat)(V:World):Prop:=V.rangeAt T (17+i*45+1) [.int .i64 o.what,.int .i64 o.ak.part,.bool o.ak.bg.ao,.string o.ak.bg.host,.int .i64 o.ak.bg.port,.bool o.ak.o.ao,.string o.ak.o.host,.int .i64 o.ak.o.port,.string o.ak.path,.string o.ak.query,.string o.ak.method,.slice ah nh ch,.bool o.ak.dB,.string o.ak.body,.bool o.proxy,.string o.text,.string o.user,.string o.pass,.string o.aW,.int .i64 o.cert,.bool o.all,.int .i64 o.n]/\V.rangeAt R 0 [.int .i64 r.what,.string r.head,.int .i64 r.cert]/\V.cell? ⟨T,17+i*45+24,none⟩=some (.int .i64 dZ)/\V.cell? ⟨T,287,none⟩=some (.int .i64 steps)
theorem bL.wA{B:Nat}{g:Nat->eU}{sv:Value}(h:bL U T B g sv t)(hi:i<6){R:Nat}{r:dG}(hh:(g i).o.ak.bo=.slice ah nh ch)(hR:U.heap[R]?=some (.cells (eL r).toArray 51 (0,0))) :
  wA (g i).o ah nh ch r (t.tab i).dZ t.steps i T R U:=by
 refine⟨?_,qb (cs:=eL r) hR,h.tab i hi 24 _ rfl,h.steps⟩;have:=ep (p:=[.int .i64 (t.tab i).does]) (q:=(g i).o.cells) (h.tab i hi);rw[tK hh]at this;exact this
theorem bL.more{B:Nat}{g:Nat->eU}{sv v':Value}{sb:Nat->Nat}{es:List (sU×(dK×List dP))}(h1:bL U T B g sv t)(h2:gU a.heap.size U (ez xw B sb t))(wB:es.map (·.1)=t.cI)(fA:OwnRows a.heap.size 80 28 U sv (es.map nz))(fp:∀x∈es,bW a.heap.size U x.2 x.1.op)
  (h4:∀n,n<6->((t.tab n).does≠0->bW a.heap.size U ((g n).o,(g n).hs) (t.tab n).op)/\((t.tab n).does=2\/(t.tab n).does=3->(g n).sp=.pointer (some ⟨sb n,0,none⟩)))(g_:a.heap.size<=T)(dU:Fr aU a U)
  {i:Nat}(hi:i<6)(hd:(t.tab i).does≠0)(r:dG)(hF:Fr (own sv) U U')(bO:OwnRows a.heap.size 80 28 U' v' (es.map nz++[nz (⟨i,(t.tab i).op,r,(t.tab i).dZ,t.steps⟩,((g i).o,(g i).hs))])) :
  bL U' T B g sv t/\aI xw a ((U'.setCell ⟨T,288,none⟩ v').setCells T (17+i*45) (dS cF zeroV)) T (dV t i r)/\(U'.setCell ⟨T,288,none⟩ v').there T (17+i*45) 45/\Fr (one T) U' ((U'.setCell ⟨T,288,none⟩ v').setCells T (17+i*45) (dS cF zeroV))/\bS U ((U'.setCell ⟨T,288,none⟩ v').setCells T (17+i*45) (dS cF zeroV)):=by
 obtain⟨d,E0,_⟩:=h1.cR;have hk:∀n,own sv n->∃c,U.heap[n]?=some (.cells c 80 (0,0)):=fun n hn=>fA.jR hn;have hT:¬own sv T:=fun e=>by
  obtain⟨c,hc⟩:=hk T e;rw[E0]at hc;cases hc
 have b1:=h1.fr hF hT;have b2:=h2.zv hF (fun n hn=>fA.block n hn) (fun n hn=>by
  obtain⟨c,hc⟩:=hk n hn;exact⟨c,_,hc,fR.1,fR.2,ae⟩)
 have ho:∀ {v:dK×List dP} {o:df},bW a.heap.size U v o->bW a.heap.size U' v o:=fun q=>q.rows (q.own.fr hF fun b hb hs=>by
  obtain⟨c,hc⟩:=hk b hs;exact q.own.not hc ae hb)
 have b3:eQ a.heap.size U' v' (t.cI++[⟨i,(t.tab i).op,r,(t.tab i).dZ,t.steps⟩]):=by
  refine⟨es++[(⟨i,(t.tab i).op,r,(t.tab i).dZ,t.steps⟩,((g i).o,(g i).hs))],by rw[bI,wB];rfl,by rw[bI];exact bO,fun x hx=>?_⟩;rcases aE.1 hx with hx|hx
  ·exact ho (fp x hx)
  ·rcases aG.1 hx with rfl
   exact ho ((h4 i hi).1 hd)
 have q1:=b1.th v' (t.cI++[⟨i,(t.tab i).op,r,(t.tab i).dZ,t.steps⟩]);have q2:=q1.1.s9 hi cF zeroV;have JY:bS U ((U'.setCell ⟨T,288,none⟩ v').setCells T (17+i*45) (dS cF zeroV)):=by
  obtain⟨d',ig,_⟩:=b1.cR;refine((bS.refl U).step hF fun n c e _ hn he q=>?_).tabs ig (q1.2.trans q2.2);obtain⟨c',wg⟩:=hk n q;rw[wg]at hn;cases hn;exact he.2.1 rfl
 refine⟨b1,?_,q1.1.there ab,q1.2.trans q2.2,JY⟩;have Fu:Fr aU a U':=dU.step hF fun k hk e=>by have:=fA.block k e;omega
 obtain⟨c',wg,_⟩:=b1.cR;obtain⟨c2,AH,_⟩:=q1.1.cR;have JZ:=(b2.one g_ wg eX.1 eX.2 ae q1.2);have J0:=(b3.one wg ae ae q1.2)
 exact aI.put (t:={t with cI:=t.cI++[⟨i,(t.tab i).op,r,(t.tab i).dZ,t.steps⟩]}) (t':=dV t i r) q1.1 JZ J0 (fun n hn=>⟨fun ig=>(ho ((h4 n hn).1 ig)).one wg ae q1.2,(h4 n hn).2⟩) g_ (Fu.step q1.2 fun k hk e=>by have e':k=T:=e;omega) q2 rfl (tq (t:={t with cI:=t.cI++[⟨i,(t.tab i).op,r,(t.tab i).dZ,t.steps⟩]}) (t':=dV t i r) rfl i (fun n hn=>aj hn) (by simp[dV,cF]) (by simp[dV,cF])) (fun j hj=>by
   by_cases ei:j=i
   ·subst ei;simp[dV,cF]
   ·simp only[dV,aj ei];exact⟨fun ig=>Or.inl ⟨trivial,trivial,trivial,ig⟩,(h4 j hj).2⟩)
theorem km(h:aI xw a U T t)(hi:i<6)(r:dG)(hd:(t.tab i).does≠0)(hl:t.cI.length<1000000) :
  Calls prog 46 #[.pointer (some ⟨T,0,none⟩),.int .i64 i,.pointer (some ⟨T,17+i*45,none⟩),.agg #[.int .i64 r.what,.string r.head,.int .i64 r.cert]] U fun e w'=>e=.returned (.tuple #[.agg #[.int .i64 r.what,.string r.head,.int .i64 r.cert],.bool true,.nilIface])/\aI xw a w' T (dV t i r)/\bS U w':=by
 obtain⟨x2,Ax⟩:∃x2,x2=(U.alloc (.cells #[.int .i64 r.what,.string r.head,.int .i64 r.cert] 51)).alloc (.cells #[.int .i64 0,.string ⟨#[]⟩,.int .i64 0] 51):=⟨_,rfl⟩;have gB:Fr aU U x2:=by rw[Ax];exact((Fr.refl aU U).alloc _).alloc _
 have k7:x2.heap[U.heap.size]?=some (.cells #[.int .i64 r.what,.string r.head,.int .i64 r.cert] 51 (0,0)):=by rw[Ax];exact((Fr.refl aU _).alloc _).keep (aB _ _) (fun h=>h)
 have k8:x2.heap[U.heap.size+1]?=some (.cells #[.int .i64 0,.string ⟨#[]⟩,.int .i64 0] 51 (0,0)):=by
  rw[Ax];have:=aB (U.alloc (.cells #[.int .i64 r.what,.string r.head,.int .i64 r.cert] 51)) (.cells #[.int .i64 0,.string ⟨#[]⟩,.int .i64 0] 51);simpa using this
 have G8:x2.heap.size=U.heap.size+2:=by rw[Ax];simp
 have gL:=O (gB.drew);obtain⟨R,hR⟩:∃R,R=U.heap.size:=⟨_,rfl⟩;have G9:x2.drew.heap.size=R+2:=G8.trans (by rw[hR]);have h':=h.dv (gB.drew);have Fv:x2.drew.heap[R]?=some (.cells #[.int .i64 r.what,.string r.head,.int .i64 r.cert] 51 (0,0)):=by rw[hR];exact k7
 have G_:x2.drew.heap[R+1]?=some (.cells #[.int .i64 0,.string ⟨#[]⟩,.int .i64 0] 51 (0,0)):=by rw[hR];exact k8
 obtain⟨B,g,sv,sb,h1,h2,⟨es,wB,fA,fp⟩,h4⟩:=h'.ex;have K9:T<R:=by
  obtain⟨_,_,_,_,q1,_⟩:=h.ex;have:=q1.lt;omega
 have Dp:=(h4 i hi).1 hd;obtain⟨ah,ch,hh⟩:=Dp.own.form;rw[ag]at hh;have F1:=h1.wA hi hh Fv;have xK:=O (fun U' v' r hF bO=>bL.more (U':=U') (v':=v') h1 h2 wB fA fp h4 h'.low h'.fr hi hd r hF bO);have Fw:es.length<1000000:=by rw[<-ag (f:=(·.1)),wB];exact hl
 have fE:a.heap.size<=R:=by have:=h.fr.size;omega
 obtain⟨x,hX⟩:∃x,x=rJ i (g i).o ah (g i).hs.length ch r (t.tab i).dZ t.steps:=⟨_,rfl⟩;have G':=O (mb (n:=i) hh (t.tab i).op r (t.tab i).dZ t.steps);have uz:=O (show∀u∈x,u.oneCell'=true by rw[hX];exact mf _ _ _ _ _ _ _ _);have Hb:=O (show x.length=28 by rw[hX];rfl);obtain⟨wC,wD,tL⟩:=fA.form;rw[ag]at tL
 have xL:=O (show x2.drew.ownsRow a.heap.size 80 28 (.slice wC es.length wD) es.length (es.map nz).flatten by
  have q:=fA.2
  rwa [ag,tL]at q)
 have zz:=O (show∀n c e,x2.drew.heap[n]?=some (.cells c e (0,0))->e≠80->(Value.slice wC es.length wD).ownBlock≠some n from fun n c e hn he=>by rw[<-tL];exact fA.not hn he);have Fx:=O (show∀y∈es.map nz,y.length=28/\∀u∈y,u.oneCell'=true from fA.1);have J1:=O (h1.cR);have d288:=h1.st;rw[tL]at d288 xK;have HR:=O hR;have EZ:=O (show U.heap.size<=R+1 from ab);have HX:=O Ax;have sP:=O hX;have He:=O Fv
 have Hf:=O G_;have Ay:=O G9;obtain⟨i0,qa,kO,gK,mv⟩:=info_parts mg;generalize (g i).o=o at *
 generalize (g i).hs=hs at *
 generalize Fm:hs.length=nh at *
 generalize Fy:(t.tab i).dZ=dZ at *
 generalize Fz:t.steps=steps at *
 clear Fm h1 h2 wB fA fp h4 h' h hd Dp hh tL gB k7 k8 Fv G_ hX Ax hR G8 Fy Fz G9;go_enter func46,ntmps46;go_wp2_with fail
 rw[<-HX.o, <-HR.o];clear HX;unfold Go.Proofs.YtpkkncoddhkfkaaGreatDoor.wA at F1
 refine wp_region_held_drew (S:=(fun V=>V.rangeAt T (17+i*45+1) [.int .i64 o.what,.int .i64 o.ak.part,.bool o.ak.bg.ao,.string o.ak.bg.host,.int .i64 o.ak.bg.port,.bool o.ak.o.ao,.string o.ak.o.host,.int .i64 o.ak.o.port,.string o.ak.path,.string o.ak.query,.string o.ak.method,.slice ah nh ch,.bool o.ak.dB,.string o.ak.body,.bool o.proxy,.string o.text,.string o.user,.string o.pass,.string o.aW,.int .i64 o.cert,.bool o.all,.int .i64 o.n]/\V.rangeAt R 0 [.int .i64 r.what,.string r.head,.int .i64 r.cert]/\V.cell? ⟨T,17+i*45+24,none⟩=some (.int .i64 dZ)/\V.cell? ⟨T,287,none⟩=some (.int .i64 steps))) af (by exact F1) ?_
 intro rA;refine aA 0 11 rfl ?_
 try simp only[Act.put,sA,sB,sC]
 refine aA 1 12 rfl ?_
 try simp only[Act.put,sA,sB,sC]
 refine aA 2 13 rfl ?_
 try simp only[Act.put,sA,sB,sC]
 refine aA 3 14 rfl ?_
 try simp only[Act.put,sA,sB,sC]
 refine aA 5 16 rfl ?_
 try simp only[Act.put,sA,sB,sC]
 refine aA 6 17 rfl ?_
 try simp only[Act.put,sA,sB,sC]
 refine aA 7 18 rfl ?_
 try simp only[Act.put,sA,sB,sC]
 refine aA 8 19 rfl ?_
 try simp only[Act.put,sA,sB,sC]
 refine hG 9 20 rfl (yieldsIf_load_mid bq 35 (.tmp 19) rfl T (17+i*45+1) rfl ([.int .i64 o.what,.int .i64 o.ak.part,.bool o.ak.bg.ao,.string o.ak.bg.host,.int .i64 o.ak.bg.port,.bool o.ak.o.ao,.string o.ak.o.host,.int .i64 o.ak.o.port,.string o.ak.path,.string o.ak.query,.string o.ak.method,.slice ah nh ch,.bool o.ak.dB,.string o.ak.body,.bool o.proxy,.string o.text,.string o.user,.string o.pass,.string o.aW,.int .i64 o.cert,.bool o.all,.int .i64 o.n]) _ (fun w hw=>hw.1) underlying35 rfl af) ?_
 try simp only[Act.put,sA,sB,sC]
 refine hG 10 21 rfl (yieldsIf_load_mid bq 51 (.tmp 7) rfl R 0 rfl ([.int .i64 r.what,.string r.head,.int .i64 r.cert]) _ (fun w hw=>hw.2.1) underlying51 rfl af) ?_
 try simp only[Act.put,sA,sB,sC]
 refine aA 11 22 rfl ?_
 try simp only[Act.put,sA,sB,sC]
 refine aA 12 23 rfl ?_
 try simp only[Act.put,sA,sB,sC]
 refine aA 13 24 rfl ?_
 try simp only[Act.put,sA,sB,sC]
 refine aA 14 25 rfl ?_
 try simp only[Act.put,sA,sB,sC]
 refine aA 15 26 rfl ?_
 try simp only[Act.put,sA,sB,sC]
 refine aA 16 27 rfl ?_
 try simp only[Act.put,sA,sB,sC]
 refine aA 17 28 rfl ?_
 try simp only[Act.put,sA,sB,sC]
 refine aA 18 29 rfl ?_
 try simp only[Act.put,sA,sB,sC]
 have zt:prog.built 80 [(0,.int .i64 i),(1,.agg #[.int .i64 o.what,.int .i64 o.ak.part,.bool o.ak.bg.ao,.string o.ak.bg.host,.int .i64 o.ak.bg.port,.bool o.ak.o.ao,.string o.ak.o.host,.int .i64 o.ak.o.port,.string o.ak.path,.string o.ak.query,.string o.ak.method,.slice ah nh ch,.bool o.ak.dB,.string o.ak.body,.bool o.proxy,.string o.text,.string o.user,.string o.pass,.string o.aW,.int .i64 o.cert,.bool o.all,.int .i64 o.n]),(2,.agg #[.int .i64 r.what,.string r.head,.int .i64 r.cert]),(3,.int .i64 dZ),(4,.int .i64 steps)]=some x.toArray:=by rw[sP.o];exact wz i o ah nh ch r dZ steps
 refine hG 19 30 rfl (gW rfl 80 _ rfl x.toArray _ (by simp only[bF,bp,bQ];rfl) zt) ?_;clear zt
 try simp only[Act.put,sA,sB,sC]
 have qZ:=O rA;have HD:=O d288;clear d288;refine wpAnyH_ready (rs:=[4,20]) af aK ?_;refine AllReadyH.cons rfl (fun K hK=>?hA) (AllReadyH.cons rfl (fun K hK=>?hB) AllReadyH.nil)
 case' hA =>
  have d288:=HD.o;go_simp;refine hK.out _ _ qZ.o ?_;intro rB;clear hK K rB d288
  try simp only[Act.put,sA,sB,sC]
  refine dr 20 rfl fun K hK=>?_;have vN:Instr.fill (fun i=>some (i*28,28)) ((Array.range (1*28)).map ((Value.agg kl).cells[· %(Value.agg kl).cells.size]!)) [(0,.agg x.toArray)]=some x.toArray:=by rw[sP.o];exact o_ i o ah nh ch r dZ steps
  refine fU rfl 54 80 1 _ rfl x.toArray i0 (.agg kl) [(0,.agg x.toArray)] (by simp only[bF,bp,bQ];rfl) underlying54 qa kO (by rw[gK];decide) (by rw[gK];decide) (by rw[gK];exact vN) ?_;clear vN;obtain⟨x3,mT⟩:∃x3,x3=x2.drew.alloc (.cells x.toArray 80):=⟨_,rfl⟩;have mh:Fr aU x2.drew x3:=by rw[mT];exact(Fr.refl aU _).alloc _
  have zA:x3.heap.size=R+3:=by rw[mT];simp[Ay.o]
  have FA:∀j u,x[j]?=some u->x3.cell? ((⟨R+2,0,none⟩:Addr).add j)=some u:=by
   rw[mT, <-Ay.o];exact gA _ x _
  have FB:x3.ownsRow a.heap.size 80 28 (.slice wC es.length wD) es.length (es.map nz).flatten:=by rw[mT];exact World.ownsRow.alloc xL.o _
  have vZ:(x3).rangeAt T (17+i*45+1) [.int .i64 o.what,.int .i64 o.ak.part,.bool o.ak.bg.ao,.string o.ak.bg.host,.int .i64 o.ak.bg.port,.bool o.ak.o.ao,.string o.ak.o.host,.int .i64 o.ak.o.port,.string o.ak.path,.string o.ak.query,.string o.ak.method,.slice ah nh ch,.bool o.ak.dB,.string o.ak.body,.bool o.proxy,.string o.text,.string o.user,.string o.pass,.string o.aW,.int .i64 o.cert,.bool o.all,.int .i64 o.n]/\(x3).rangeAt R 0 [.int .i64 r.what,.string r.head,.int .i64 r.cert]/\(x3).cell? ⟨T,17+i*45+24,none⟩=some (.int .i64 dZ)/\(x3).cell? ⟨T,287,none⟩=some (.int .i64 steps):=(⟨eH qZ.o.1 mh (fun h=>h),eH qZ.o.2.1 mh (fun h=>h),ed qZ.o.2.2.1 mh (fun h=>h),ed qZ.o.2.2.2 mh (fun h=>h)⟩)
  have d288:=ed HD.o mh (fun h=>h);rw[<-mT,Ay.o];refine hK.out _ _ vZ ?_;clear hK K mT;intro uB
 case' hB =>
  have vN:Instr.fill (fun i=>some (i*28,28)) ((Array.range (1*28)).map ((Value.agg kl).cells[· %(Value.agg kl).cells.size]!)) [(0,.agg x.toArray)]=some x.toArray:=by rw[sP.o];exact o_ i o ah nh ch r dZ steps
  refine fU rfl 54 80 1 _ rfl x.toArray i0 (.agg kl) [(0,.agg x.toArray)] (by simp only[bF,bp,bQ];rfl) underlying54 qa kO (by rw[gK];decide) (by rw[gK];decide) (by rw[gK];exact vN) ?_;clear vN;obtain⟨x3,mT⟩:∃x3,x3=x2.drew.alloc (.cells x.toArray 80):=⟨_,rfl⟩;have mh:Fr aU x2.drew x3:=by rw[mT];exact(Fr.refl aU _).alloc _
  have zA:x3.heap.size=R+3:=by rw[mT];simp[Ay.o]
  have FA:∀j u,x[j]?=some u->x3.cell? ((⟨R+2,0,none⟩:Addr).add j)=some u:=by
   rw[mT, <-Ay.o];exact gA _ x _
  have FB:x3.ownsRow a.heap.size 80 28 (.slice wC es.length wD) es.length (es.map nz).flatten:=by rw[mT];exact World.ownsRow.alloc xL.o _
  have vZ:(x3).rangeAt T (17+i*45+1) [.int .i64 o.what,.int .i64 o.ak.part,.bool o.ak.bg.ao,.string o.ak.bg.host,.int .i64 o.ak.bg.port,.bool o.ak.o.ao,.string o.ak.o.host,.int .i64 o.ak.o.port,.string o.ak.path,.string o.ak.query,.string o.ak.method,.slice ah nh ch,.bool o.ak.dB,.string o.ak.body,.bool o.proxy,.string o.text,.string o.user,.string o.pass,.string o.aW,.int .i64 o.cert,.bool o.all,.int .i64 o.n]/\(x3).rangeAt R 0 [.int .i64 r.what,.string r.head,.int .i64 r.cert]/\(x3).cell? ⟨T,17+i*45+24,none⟩=some (.int .i64 dZ)/\(x3).cell? ⟨T,287,none⟩=some (.int .i64 steps):=(⟨eH qZ.o.1 mh (fun h=>h),eH qZ.o.2.1 mh (fun h=>h),ed qZ.o.2.2.1 mh (fun h=>h),ed qZ.o.2.2.2 mh (fun h=>h)⟩)
  have d288:=ed HD.o mh (fun h=>h);rw[<-mT,Ay.o];refine hK.out _ _ vZ ?_;clear hK K mT;intro uB
  try simp only[Act.put,sA,sB,sC]
  refine dr 4 rfl fun K hK=>?_;go_simp;refine hK.out _ _ vZ ?_;intro js;clear hK K js
 all_goals
  try simp only[Act.put,sA,sB,sC]
  clear rA;refine dr 21 rfl fun K hK=>?_;refine step_append_lies (w:=x3) rfl (.tmp 15) (.tmp 31) 54 rfl a.heap.size 80 i0 _ 28 328 underlying54 qa kO gK mv rfl ab (.slice wC es.length wD) es.length _ rfl FB ⟨R+2,0,none⟩ 1 1 x rfl (by rw[Hb.o]) FA uz.o ab fS ab ab (R+3) zA ?_;intro gg cap w4 eA gQ lx zx
  have nE:Fr (own (.slice wC es.length wD)) x2.drew w4:=Fr.grown (mh.mono (fun _ _ h=>absurd h (fun h=>h))) gQ (fun _ hk _=>hk);have hm:=xK.o w4 (.slice (some ⟨gg,0,none⟩) (es.length+1) cap) r nE (by
   refine⟨fun y hy=>?_,?_⟩
   ·rcases aE.1 hy with hy|hy
    ·exact Fx.o y hy
    ·rcases aG.1 hy with rfl
     rw[G'.o, <-sP.o];exact⟨Hb.o,uz.o⟩
   ·rw[G'.o, <-sP.o,aS,ag,List.flatten_append];simpa using eA)
  obtain⟨m1,m2,m3,m4,m5⟩:=hm;have J2:=O ((a_ gL.o).trans m5);have J3:=O m2;have J4:=O m3;have Hg:=O m4;have nR:=zz.o R _ _ He.o ae;have nT:(Value.slice wC es.length wD).ownBlock≠some T:=by
   obtain⟨bt,zt,_⟩:=J1.o;exact zz.o T _ _ zt ae
  have n7:=nE.keep He.o nR;have n8:=nE.keep Hf.o (zz.o _ _ _ Hf.o ae);have FC:=m1.st;have f288:=m1.free 288
  have js:(w4).rangeAt T (17+i*45+1) [.int .i64 o.what,.int .i64 o.ak.part,.bool o.ak.bg.ao,.string o.ak.bg.host,.int .i64 o.ak.bg.port,.bool o.ak.o.ao,.string o.ak.o.host,.int .i64 o.ak.o.port,.string o.ak.path,.string o.ak.query,.string o.ak.method,.slice ah nh ch,.bool o.ak.dB,.string o.ak.body,.bool o.proxy,.string o.text,.string o.user,.string o.pass,.string o.aW,.int .i64 o.cert,.bool o.all,.int .i64 o.n]/\(w4).rangeAt R 0 [.int .i64 r.what,.string r.head,.int .i64 r.cert]/\(w4).cell? ⟨T,17+i*45+24,none⟩=some (.int .i64 dZ)/\(w4).cell? ⟨T,287,none⟩=some (.int .i64 steps):=(⟨eH qZ.o.1 nE nT,eH qZ.o.2.1 nE nR,ed qZ.o.2.2.1 nE nT,ed qZ.o.2.2.2 nE nT⟩)
  have Ff:=O m1;refine hK.out _ _ js ?_;intro Cy;clear hK K m1 m2 m3 m4 m5 eA gQ lx zx FB FA vZ d288
  try simp only[Act.put,sA,sB,sC]
  refine aA 22 33 rfl ?_
  try simp only[Act.put,sA,sB,sC]
  refine aA 23 34 rfl ?_
  try simp only[Act.put,sA,sB,sC]
  refine dr 24 rfl fun K hK=>?_;go_simp;have FD:Fr (one T) w4 (w4.setCell ⟨T,288,none⟩ (.slice (some ⟨gg,0,none⟩) (es.length+1) cap)):=(Fr.refl (one T) _).setCell (p:=⟨T,288,none⟩) (fun _=>rfl) _;have Az:R≠T:=ab
  have xM:(w4.setCell ⟨T,288,none⟩ (.slice (some ⟨gg,0,none⟩) (es.length+1) cap)).rangeAt T (17+i*45+1) [.int .i64 o.what,.int .i64 o.ak.part,.bool o.ak.bg.ao,.string o.ak.bg.host,.int .i64 o.ak.bg.port,.bool o.ak.o.ao,.string o.ak.o.host,.int .i64 o.ak.o.port,.string o.ak.path,.string o.ak.query,.string o.ak.method,.slice ah nh ch,.bool o.ak.dB,.string o.ak.body,.bool o.proxy,.string o.text,.string o.user,.string o.pass,.string o.aW,.int .i64 o.cert,.bool o.all,.int .i64 o.n]/\(w4.setCell ⟨T,288,none⟩ (.slice (some ⟨gg,0,none⟩) (es.length+1) cap)).rangeAt R 0 [.int .i64 r.what,.string r.head,.int .i64 r.cert]/\(w4.setCell ⟨T,288,none⟩ (.slice (some ⟨gg,0,none⟩) (es.length+1) cap)).cell? ⟨T,17+i*45+24,none⟩=some (.int .i64 dZ)/\(w4.setCell ⟨T,288,none⟩ (.slice (some ⟨gg,0,none⟩) (es.length+1) cap)).cell? ⟨T,287,none⟩=some (.int .i64 steps):=(⟨hM js.1 cw,eH js.2.1 FD (fun e=>Az e),bl (vs:=[_]) js.2.2.1 (Or.inl ab),bl (vs:=[_]) js.2.2.2 (Or.inl ab)⟩)
  refine hK.out _ _ xM ?_;intro Cz;clear hK K Cz Cy;refine wpAnyH_done af ?_ _;have p7:=FD.keep n7 (fun e=>Az e);have p8:=FD.keep n8 (fun e=>by have e':R+1=T:=e;omega);have J5:=O (((Hg.o).keep n7 (fun e=>Az e)));have FE:=O (((Hg.o).keep n8 (fun e=>by have e':R+1=T:=e;omega)));clear js xM n7 n8 FC f288 nE mh zA;generalize w4.setCell ⟨T,288,none⟩ (.slice (some ⟨gg,0,none⟩) (es.length+1) cap)=W5 at *
  go_wp2_with (first|((with_reducible refine dm 69 ?_);go_must(refine wpList_store_mid rfl 69 _ _ rfl T (17+i*45) (dS cF zeroV).toArray rfl rfl J4.o rfl (kj _ _ rfl rfl) ?_))|((with_reducible refine dC 38 ?_);go_must(refine wpList_load_row rfl 51 (.tmp 7) rfl R rfl _ #[.int .i64 r.what,.string r.head,.int .i64 r.cert] (0,0) _ J5.o underlying51 rfl (aX _ rfl) ?_))|((with_reducible refine dm 51 ?_);go_must(refine wpList_store_row rfl 51 (.tmp 8) (.tmp 38) rfl (R+1) #[.int .i64 r.what,.string r.head,.int .i64 r.cert] rfl rfl _ bG FE.o (aX _ rfl) rfl bN ?_))|fail)
  refine bodyPost_ret (cL bq _ _ (R+1) 51 #[.int .i64 r.what,.string r.head,.int .i64 r.cert] (0,0) _ rfl (setRow_heap _ (R+1) _ _ _ _ FE.o) underlying51 rfl (aX _ rfl)) rfl ?_
  exact⟨rfl,aI.zv J3.o ((Fr.refl (one (R+1)) _).setRow (fun _=>rfl) _) (fun n hn=>by have e':n=R+1:=hn;omega) (fun n hn=>by cases(show n=R+1 from hn);exact⟨_,_,FE.o,l9⟩),J2.o.new ((Fr.refl (one (R+1)) _).setRow (fun _=>rfl) _) EZ.o⟩
end
