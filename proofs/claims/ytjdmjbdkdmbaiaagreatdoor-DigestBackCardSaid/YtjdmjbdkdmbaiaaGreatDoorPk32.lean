/- Known1, WorldPure, Book5, Grant1. -/
import Derived.Test.YtjdmjbdkdmbaiaaGreatDoorPk30
set_option maxRecDepth 100000
set_option maxHeartbeats 16000000
set_option linter.unusedSimpArgs false
namespace Go.Proofs.YtjdmjbdkdmbaiaaGreatDoor
open Go.RowKit
def Hb(s:Bs):Value:=match NB s with
 |some (k,b)=>.tuple #[.int .i64 k,.bool b,.bool true]
 |none=>.tuple #[.int .i64 0,.bool false,.bool false]
theorem zJ(s:ByteArray)(w:World)(hs:s.size<17592186044416) :
  Calls Tryz.prog 211 #[.string s] w fun e w'=>e=.returned (Hb s.data.toList)/\Fr ay w w':=by
 have S1:=O (show∀U,Calls Tryz.prog 92 #[.string s,.string ⟨#[77,68,53]⟩] U fun e w'=>e=.returned (.bool (bf s.data.toList rM))/\Fr ay U w' from fun U=>gX s _ U hs (by decide));have S2:=O (show∀U,Calls Tryz.prog 92 #[.string s,.string ⟨#[77,68,53,45,115,101,115,115]⟩] U fun e w'=>e=.returned (.bool (bf s.data.toList (rM++sZ)))/\Fr ay U w' from fun U=>gX s _ U hs (by decide))
 have S3:=O (show∀U,Calls Tryz.prog 92 #[.string s,.string ⟨#[83,72,65,45,50,53,54]⟩] U fun e w'=>e=.returned (.bool (bf s.data.toList BB))/\Fr ay U w' from fun U=>gX s _ U hs (by decide));have S4:=O (show∀U,Calls Tryz.prog 92 #[.string s,.string ⟨#[83,72,65,45,50,53,54,45,115,101,115,115]⟩] U fun e w'=>e=.returned (.bool (bf s.data.toList (BB++sZ)))/\Fr ay U w' from fun U=>gX s _ U hs (by decide))
 have HV:=O (show Hb s.data.toList=if bf s.data.toList rM then .tuple #[.int .i64 2,.bool false,.bool true]else if bf s.data.toList (rM++sZ)then .tuple #[.int .i64 2,.bool true,.bool true]
   else if bf s.data.toList BB then .tuple #[.int .i64 3,.bool false,.bool true]else if bf s.data.toList (BB++sZ)then .tuple #[.int .i64 3,.bool true,.bool true]else .tuple #[.int .i64 0,.bool false,.bool false]by
  unfold Hb NB;split
  ·rename_i k b h;split at h
   ·rename_i h1;cases h;rw[if_pos h1]
   rename_i h1;rw[if_neg h1];split at h
   ·rename_i h2;cases h;rw[if_pos h2]
   rename_i h2;rw[if_neg h2];split at h
   ·rename_i h3;cases h;rw[if_pos h3]
   rename_i h3;rw[if_neg h3];split at h
   ·rename_i h4;cases h;rw[if_pos h4]
   ·cases h
  ·rename_i h;split at h
   ·cases h
   rename_i h1;rw[if_neg h1];split at h
   ·cases h
   rename_i h2;rw[if_neg h2];split at h
   ·cases h
   rename_i h3;rw[if_neg h3];split at h
   ·cases h
   rename_i h4;rw[if_neg h4])
 generalize bf s.data.toList rM=b1 at *
 generalize bf s.data.toList (rM++sZ)=b2 at *
 generalize bf s.data.toList BB=b3 at *
 generalize bf s.data.toList (BB++sZ)=b4 at *
 obtain⟨w1,jt⟩:∃w1,w1=w.alloc (.cells #[.string ⟨#[77,68,53]⟩,.string ⟨#[83,72,65,45,50,53,54]⟩] 9):=⟨_,rfl⟩;have bt:Fr ay w w1:=by rw[jt];exact(Fr.refl _ _).alloc _
 have o9:w1.heap[w.heap.size]?=some (.cells #[.string ⟨#[77,68,53]⟩,.string ⟨#[83,72,65,45,50,53,54]⟩] 9 (0,0)):=by rw[jt];exact af _ _
 have HC:=O (show∀U,Fr ay w1 U->U.cell? ⟨w.heap.size,0,none⟩=some (.string ⟨#[77,68,53]⟩)/\U.cell? ⟨w.heap.size,1,none⟩=some (.string ⟨#[83,72,65,45,50,53,54]⟩)from fun U hU=>by
  have j1:=hU.keep o9 (fun h=>h);simp[World.cell?,j1])
 have D3:=O jt;clear jt o9;go_enter Tryz.func211,Tryz.ntmps211;go_wp2;rw[<-D3.out];obtain⟨c0,c1⟩:=HC.out w1 (Fr.refl _ _);refine wp_loop_rounds 3 ?_;rw[rounds_succ];go_wp2_with fail
 refine(S1.out w1).mono ?_;rintro e u1⟨rfl,rF⟩;clear c0 c1;cases b1
 case true =>
  go_wp2
  go_ret3
  exact⟨by rw[HV.out];rfl,bt.trans rF⟩
 case false =>
  go_wp2_with fail
  refine(S2.out u1).mono ?_;rintro e u2⟨rfl,jZ⟩;have dk:=O (rF.trans jZ);cases b2
  case true =>
   go_wp2
   go_ret3
   exact⟨by rw[HV.out];rfl,bt.trans dk.out⟩
  case false =>
   obtain⟨c0,c1⟩:=HC.out u2 dk.out;go_wp2_with fail
   rw[rounds_succ];go_wp2_with fail
   refine(S3.out u2).mono ?_;rintro e u3⟨rfl,pz⟩;have dV:=O (dk.out.trans pz);clear c0 c1;cases b3
   case true =>
    go_wp2
    go_ret3
    exact⟨by rw[HV.out];rfl,bt.trans dV.out⟩
   case false =>
    go_wp2_with fail
    refine(S4.out u3).mono ?_;rintro e u4⟨rfl,hu4⟩;have fu:=O (dV.out.trans hu4);cases b4
    case true =>
     go_wp2
     go_ret3
     exact⟨by rw[HV.out];rfl,bt.trans fu.out⟩
    case false =>
     go_wp2_with fail
     rw[rounds_succ];go_wp2
     go_ret3
     exact⟨by rw[HV.out];rfl,bt.trans fu.out⟩
def Co(w:World)(b:Nat)(n:ByteArray):Prop:=w.heap[b]?=some (.cells #[.string n] 9 (0,0))
theorem Hc(s n:ByteArray)(b:Nat)(w:World)(h:Co w b n)(hs:s.size<17592186044416)(hn:n.size<17592186044416) :
  Calls Tryz.prog 213 #[.string s,.pointer (some ⟨b,0,none⟩)] w fun e w'=>e=.returned (.bool (bf s.data.toList n.data.toList))/\Fr ay w w':=by
 have c0:w.cell? ⟨b,0,none⟩=some (.string n):=by simp[World.cell?,show w.heap[b]?=_ from h]
 go_enter Tryz.func213,Tryz.ntmps213;go_wp2_with fail
 refine(gX s n w hs hn).mono ?_;rintro e w1⟨rfl,hf⟩;go_wp2;go_ret;exact⟨rfl,hf⟩
theorem Vi(n:ByteArray)(b:Nat)(v:Value)(ss:List ByteArray)(w:World)(hv:cX w v ss)(hl:ss.length<=1000)(hb:Co w b n)(hn:n.size<17592186044416)(hz:∀x∈ss,x.size<17592186044416) :
  Calls Tryz.prog 212 #[v,.func (.func 213) #[] #[.pointer (some ⟨b,0,none⟩)]] w fun e w'=>e=.returned (.bool (ss.any fun x=>bf x.data.toList n.data.toList))/\Fr ay w w':=by
 refine(uu (fun u=>Co u b n) 213 #[.pointer (some ⟨b,0,none⟩)] (fun x=>bf x.data.toList n.data.toList) v ss w Tryz.call213 hb ?_ hv (by unfold maxLen;omega)).mono ?_
 ·intro x hx u hu;refine(Hc x n b u hu (hz x hx) hn).mono ?_;rintro e u'⟨he,hf⟩;exact⟨he,hf,hf.keep hu (fun h=>h)⟩
 ·rintro e w'⟨he,hf,_⟩;exact⟨he,hf⟩
structure bH where
 aH:List (ai aF)
 waits:List (aG aF)
 book:List bI
 dh:List (cO×Int)
structure bW where
 part:Nat->bH
 now:Int
structure ib where
 what:Int
 part:Int
 aI:cO
 o:cO
 path:ByteArray
 query:ByteArray
 method:ByteArray
 cU:List dW
 bP:Bool
 body:ByteArray
 proxy:Bool
 text:ByteArray
 user:ByteArray
 pass:ByteArray
 aB:ByteArray
 cert:Int
 all:Bool
 n:Int
structure nk where
 what:Int
 head:ByteArray
 cert:Int
def ib.ab(o:ib):lu:=⟨o.aI,o.o,o.path,o.query,o.method,o.cU,o.bP⟩
def qh:bH:=⟨[],[],[],[]⟩
def yD:bW:=⟨fun _=>qh,0⟩
def bW.set(w:bW)(k:Nat)(p:bH):bW:={w with part:=fun i=>if i=k then p else w.part i}
def rep(n:Int):nk:=⟨n,.empty,0⟩
def ib.UP(o:ib)(g:ai aF):je:=⟨decide (g.a.scheme=3),g.a.aL,g.a.ar,g.a.aE,g.a.bU,g.user,g.pass,eD o.method,iZ o.path o.query,o.body,o.aB,g.count.toNat⟩
def jT(g:ai aF)(o:ib):Option ByteArray :=
 if g.a.scheme=1 then
  (if 0<=Lib.indexByte g.user.data.toList 58 then none else if fY g.user&&fY g.pass then some (yh g.user g.pass)else none)
 else if((g.a.scheme=2\/g.a.scheme=3)/\(g.a.bU.data.toList=[]\/g.a.bU.data.toList=gO\/g.a.bU.data.toList=kI))/\(1<=g.count/\g.count<=4294967295)/\(tP g.a.scheme g.a.aK (o.UP g)).fair=true then
  some (bA (tP g.a.scheme g.a.aK (o.UP g)).text)
 else none
def oX(gs:List (ai aF))(o:cO)(proxy:Bool)(ar:ByteArray):List (ai aF):=gs.filter (fun x=>!iv o proxy ar x)
def ft(p:bH)(o:ib):bH×nk :=
 match mD p.aH o.o o.proxy o.path with
 |(gs,.error _)=>({p with aH:=gs},rep 2)
 |(gs,.ok g) =>
  match jT g o with
  |none=>({p with aH:=oX gs g.o g.proxy g.a.ar},rep 2)
  |some s=>({p with aH:=gs},⟨1,s,0⟩)
def UQ(gs:List (ai aF))(o:cO)(proxy:Bool)(ar:ByteArray):Option (ai aF):=gs.find? (iv o proxy ar)
def yE(a:cQ aF)(g:Option (ai aF)):Option (ai aF) :=
 match g with
 |some g=>if a.aX&&(a.scheme==g.a.scheme&&a.aE.toList !=g.a.aE.toList)then some {g with a:=a,count:=0}else none
 |none=>none
def ee(p:bH)(o:ib):bH×nk :=
 match g_ o.text.data.toList with
 | .error _=>(p,rep 7)
 | .ok l =>
  if 0<(d_ l).scheme then
   match yE (d_ l) (UQ p.aH o.o o.proxy (d_ l).ar)with
   |some g=>({p with aH:=oy p.aH g},rep 1)
   |none=>({p with aH:=oX p.aH o.o o.proxy (d_ l).ar,waits:=re p.waits ⟨o.o,o.proxy,o.path,d_ l⟩},rep 3)
  else(p,rep 2)
def ef(p:bH)(o:ib):bH×nk :=
 match fk o.o o.proxy p.waits with
 |(ws,none)=>({p with waits:=ws},rep 2)
 |(ws,some x)=>({p with waits:=ws,aH:=oy p.aH ⟨x.o,x.proxy,o.user,o.pass,x.a,0,iG x.a x.proxy x.path⟩},rep 1)
def fS(p:bH)(now:Int)(o:ib):bH×nk :=
 match ik o.text.data.toList with
 | .error _=>(p,rep 7)
 | .ok l =>
  match oc o.ab (zZ o.aI.bF) l now with
  | .error _=>({p with book:=p.book.filter (fun q=>!q.oW o.ab)},rep 2)
  | .ok m=>({p with book:=ob p.book m now},rep 1)
def Ey(o:cO)(l:List (cO×Int)):List (cO×Int):=l.filter (fun c=>!c.1.eN o)
def rC(l:List (cO×Int))(o:cO)(n:Int):List (cO×Int) :=
 (Ey o l++[(o,n)]).drop ((Ey o l++[(o,n)]).length-8)
def jU(p:bH)(o:ib):bH×nk :=
 if o.cert<0 then(p,rep 7)else({p with dh:=rC p.dh o.o o.cert},rep 1)
def AV(p:bH)(o:ib):nk :=
 match p.dh.find? (fun c=>c.1.eN o.o)with
 |some c=>⟨1,.empty,c.2⟩
 |none=>rep 3
def qi(p:bH)(o:cO):bH:={p with aH:=p.aH.filter (fun g=>!SZ o g),waits:=p.waits.filter (fun g=>!GM o g)}
def Ce(p:bH)(o:cO):bH:={qi p o with book:=p.book.filter (fun q=>!q.qg o),dh:=Ey o p.dh}
def kN(p:bH)(o:ib):bH×nk :=
 if o.all&&o.what==9 then(qh,rep 1)
 else if o.what==9 then(Ce p o.o,rep 1)else(qi p o.o,rep 1)
def lF(p:bH)(now:Int)(o:ib):bH×nk :=
 if o.what=1 then ft p o
 else if o.what=2 then ee p o
 else if o.what=3 then ef p o
 else if o.what=4 then(p,rep (if hZ p.book o.ab now then 5 else 4))
 else if o.what=5 then fS p now o
 else if o.what=6 then(p,AV p o)
 else if o.what=7 then jU p o
 else kN p o
def ib.O8(o:ib):Bool:=decide (0<=o.part)&&(decide (o.part<4)&&(uN o.method.data.toList&&(decide (o.cU.length<=40)&&o.cU.all fun p=>uN p.1.data.toList)))
def ib.right(o:ib):Bool :=
 decide (1<=o.what)&&(decide (o.what<=10)&&(o.O8&&(jg o.aI&&(jg o.o&&(decide (o.path.size<=200)&&(o.path.data.toList.head?==some 47&&decide (o.text.size<=3000)))))))
def cV(w:bW)(o:ib):bW×nk :=
 if o.right then
  if o.what=10 then
   if o.n<0\/1099511627776-w.now<o.n then(w,rep 7)else({w with now:=w.now+o.n},rep 1)
  else(w.set o.part.toNat (lF (w.part o.part.toNat) w.now o).1,(lF (w.part o.part.toNat) w.now o).2)
 else(w,rep 7)
def nM(l:List ib):bW:=l.foldl (fun w o=>(cV w o).1) yD
def nN(base:Nat)(w:World)(b:Nat)(v:Value)(ps:List bI)(f:bI->Bool)(e:Ending)(w':World):Prop :=
 e=.returned (.int .i64 ((ps.length:Int)-((ps.filter (fun p=>!f p)).length:Int)))/\yB base w b v (ps.filter (fun p=>!f p)) w'
theorem AY{base:Nat}{w w1 w2:World}{b:Nat}{v:Value}{ps ys:List bI}{a:Option Addr}{c:Nat}(h:cy base w1 b v ps)(bt:Fr ay w w1)(bq:Fr (own v) w1 w2)(JN:own (.slice a ys.length c)=own v)(ho:OwnRows base 65 12 w2 (.slice a ys.length c) (ys.map bI.cells)) :
  cy base (w2.setCell ⟨b,0,none⟩ (.slice a ys.length c)) b (.slice a ys.length c) ys/\Fr (dK b v) w (w2.setCell ⟨b,0,none⟩ (.slice a ys.length c))/\(∀k,dK b (.slice a ys.length c) k->dK b v k\/w.heap.size<=k)/\w2.cell? ⟨b,0,none⟩=some v/\w2.frozen? ⟨b,0,none⟩=false:=by
 have Ev:=bq.keep h.cR h.nb;refine⟨cy.set h.low Ev ho,?_,?_,by simp[World.cell?,Ev],by simp[World.frozen?,Ev]⟩
 ·exact(Fr.step (S:=dK b v) (bt.mono (fun _ _ h=>absurd h (fun h=>h))) bq (fun _ _ h=>Or.inr h)).setCell (p:=⟨b,0,none⟩) (fun _=>Or.inl rfl) _
 ·rintro k(hk|hk)
  ·exact Or.inl (Or.inl hk)
  ·exact Or.inl (Or.inr (by rw[<-JN];exact hk))
theorem EI(base:Nat)(w:World)(b:Nat)(v:Value)(ps:List bI)(r:dp Value)(hs:List dW)(h:cy base w b v ps)(hlen:ps.length<1000000) :
  Calls Tryz.prog 118 #[.pointer (some ⟨b,0,none⟩),.agg r.cells.toArray] w (nN base w b v ps (bI.oW (r.bF hs))):=by
 obtain⟨rc,nw⟩:∃rc,rc=r.cells.toArray:=⟨_,rfl⟩;have bt:Fr ay w (w.alloc (.cells rc 29)):=(Fr.refl _ _).alloc _;have gZ:(w.alloc (.cells rc 29)).heap[w.heap.size]?=some (.cells rc 29 (0,0)):=af _ _;have h1:=h.bd bt;obtain⟨ak,ck,M8⟩:=h.form;subst M8;have UE:¬own (.slice ak ps.length ck) w.heap.size:=fun hk=>by have:=h.yC hk;omega
 have hd:=kD base 181 #[.pointer (some ⟨w.heap.size,0,none⟩)] (fun y=>(Cd y).oW (r.bF hs)) (.slice ak ps.length ck) (ps.map bI.cells) _ Tryz.call181 (fun y hy u hu=>by
  obtain⟨q,_,rfl⟩:=List.mem_map.1 hy;exact Ew q r hs w.heap.size u (by rw[<-nw];exact hu.keep gZ UE)) h1.rows
 rw[lD ps (bI.oW (r.bF hs)),List.length_map]at hd;obtain⟨ys,DM⟩:∃ys,ys=ps.filter (fun p=>!p.oW (r.bF hs)):=⟨_,rfl⟩;have hyl:ys.length<=ps.length:=by rw[DM];exact List.length_filter_le _ _
 unfold nN;rw[<-DM]at hd ⊢;have HD:=O hd;have H1:=O h1;have gV:=O bt;have c0:=h1.c0;have e0:=h1.free 0;rw[<-nw];clear hd DM h1 h bt gZ nw UE;go_enter Tryz.func118,Tryz.ntmps118;go_wp2_with fail
 refine HD.out.mono ?_;rintro e w2⟨a2,c2,rfl,lr,bq,JN⟩;obtain⟨g1,g2,g3,d0,e2⟩:=AY H1.out gV.out bq JN lr;have d3:=g1.c0;have G:=O (And.intro g1 (And.intro g2 g3));clear g1 g2 g3 lr bq JN HD H1 gV c0 e0;go_wp2;go_ret;exact⟨rfl,_,G.out.1,G.out.2.1,G.out.2.2⟩
theorem G5(base:Nat)(w:World)(b:Nat)(v:Value)(ps:List bI)(o:cO)(h:cy base w b v ps)(hlen:ps.length<1000000) :
  Calls Tryz.prog 123 #[.pointer (some ⟨b,0,none⟩),.agg o.cells.toArray] w (nN base w b v ps (bI.qg o)):=by
 unfold cO.cells;have bt:Fr ay w (w.alloc (.cells #[.bool o.ae,.string o.host,.int .i64 o.port] 24)):=(Fr.refl _ _).alloc _;have gZ:(w.alloc (.cells #[.bool o.ae,.string o.host,.int .i64 o.port] 24)).heap[w.heap.size]?=some (.cells #[.bool o.ae,.string o.host,.int .i64 o.port] 24 (0,0)):=af _ _;have h1:=h.bd bt;obtain⟨ak,ck,M8⟩:=h.form;subst M8
 have UE:¬own (.slice ak ps.length ck) w.heap.size:=fun hk=>by have:=h.yC hk;omega
 have hd:=kD base 191 #[.pointer (some ⟨w.heap.size,0,none⟩)] (fun y=>(Cd y).qg o) (.slice ak ps.length ck) (ps.map bI.cells) _ Tryz.call191 (fun y hy u hu=>by
  obtain⟨q,_,rfl⟩:=List.mem_map.1 hy;exact Ex q o w.heap.size u (hu.keep gZ UE)) h1.rows
 rw[lD ps (bI.qg o),List.length_map]at hd;obtain⟨ys,DM⟩:∃ys,ys=ps.filter (fun p=>!p.qg o):=⟨_,rfl⟩;have hyl:ys.length<=ps.length:=by rw[DM];exact List.length_filter_le _ _
 unfold nN;rw[<-DM]at hd ⊢;have HD:=O hd;have H1:=O h1;have gV:=O bt;have c0:=h1.c0;have e0:=h1.free 0;clear hd DM h1 h bt gZ UE;go_enter Tryz.func123,Tryz.ntmps123;go_wp2_with fail
 refine HD.out.mono ?_;rintro e w2⟨a2,c2,rfl,lr,bq,JN⟩;obtain⟨g1,g2,g3,d0,e2⟩:=AY H1.out gV.out bq JN lr;have d3:=g1.c0;have G:=O (And.intro g1 (And.intro g2 g3));clear g1 g2 g3 lr bq JN HD H1 gV c0 e0;go_wp2;go_ret;exact⟨rfl,_,G.out.1,G.out.2.1,G.out.2.2⟩
theorem PB(a d g:Bool)(b e p q m h:ByteArray)(c f t:Int):Tryz.prog.built 65 [(0,.agg #[.bool a,.string b,.int .i64 c]),(1,.agg #[.bool d,.string e,.int .i64 f,.string p,.string q]),(2,.bool g),(3,.string m),(4,.string h),(5,.int .i64 t)]=some #[.bool a,.string b,.int .i64 c,.bool d,.string e,.int .i64 f,.string p,.string q,.bool g,.string m,.string h,.int .i64 t]:=by kernel_rfl
theorem G9:(Tryz.prog.info? 65).map (fun i=>(i.zero,i.size,i.bytes))=some (some (.agg zF),12,144):=by kernel_rfl
theorem OwnRows.PC{b k:Nat}{e:TypeId}{w:World}{v:Value}{xs:List (List Value)}(h:OwnRows b e k w v xs){g:Nat}(hg:own v g):∃c,w.heap[g]?=some (.cells c e (0,0)):=by
 obtain⟨cap,cur,_,_,h2,_⟩:=h.open hg;exact⟨cur,h2⟩
theorem PD(p:bI):∀u∈p.cells,u.oneCell'=true:=by unfold bI.cells;simp[Value.oneCell']
theorem EN(acc:List bI)(X:bI):acc.any (fun q=>q.eN X)=acc.any (fun q=>X.eN q):=by
 congr 1;funext q
 rw[Bool.eq_iff_iff,bI.sW,bI.sW];exact eq_comm
theorem Cl{P:Program}{ops:Array Oper}{S:World->Prop}{o:Oper}{a:Act}(hg:o.guard=none)(t:TypeId)(parts:Array (Nat×Operand))(ho:o.op=.build t parts)(cells:Array Value)
  (hf:P.built t (parts.map fun(i,x)=>(i,a.eval x)).toList=some cells):YieldsIf P ops S o (.agg cells) a :=
 Or.inl ⟨by simp[Region.wanted,hg],fun w _=>by
  unfold execOp;simp only[ho,Sem.run_bind,run_build w t _ cells hf,Result.andThen_ok];rfl⟩
theorem oY{ops:Array Oper}{S:World->Prop}{o:Oper}{a:Act}(hg:o.guard=none)(x0 x1 x2 x3 x4 x5:Operand)
  (ho:o.op=.build 65 #[(0,x0),(1,x1),(2,x2),(3,x3),(4,x4),(5,x5)])(b1 b2 b3:Bool)(s1 s2 s3 s4 s5 s6:ByteArray)(i1 i2 i3:Int)
  (h0:a.eval x0=.agg #[.bool b1,.string s1,.int .i64 i1])(h1:a.eval x1=.agg #[.bool b2,.string s2,.int .i64 i2,.string s3,.string s4])(h2:a.eval x2=.bool b3)(h3:a.eval x3=.string s5)(h4:a.eval x4=.string s6)(h5:a.eval x5=.int .i64 i3) :
  YieldsIf Tryz.prog ops S o (.agg #[.bool b1,.string s1,.int .i64 i1,.bool b2,.string s2,.int .i64 i2,.string s3,.string s4,.bool b3,.string s5,.string s6,.int .i64 i3]) a:=by
 refine Cl hg 65 _ ho _ ?_;simp only[List.map_toArray,List.map_cons,List.map_nil,h0,h1,h2,h3,h4,h5];exact PB _ _ _ _ _ _ _ _ _ _ _ _
theorem yN{P:Program}{ops:Array Oper}{a:Act}{w:World}{K:Act->World->Prop}{Q:Exit->Act->World->Prop}{E:Prop}{o:Oper}(zM:o.guard=none)(ty:TypeId)(x y:Operand)(ho:o.op=.store ty x y)
  (g:Nat)(cells:Array Value)(hx:a.eval x=.pointer (some ⟨g,0,none⟩))(hy:a.eval y=.agg cells)
  (t:TypeId)(vT:Array Value)(hg:w.heap[g]?=some (.cells vT t (0,0)))(hi:(P.info? ty).map (·.size)=some cells.size)
  (hold:vT.size=cells.size)(h1:cells.all (·.oneCell')=true)
  (h:K (a.put o.dst undef) (w.setRow g cells)):if Region.wanted o (yielded ops a.tmps)=true then Oper.wp P o a w K Q else E:=by
 have hw:Region.wanted o (yielded ops a.tmps)=true:=by simp[Region.wanted,zM]
 rw[if_pos hw];exact wp_store_row ty x y ho g cells hx hy t vT hg hi hold h1 h
theorem jv{S:Nat->Prop}{a w:World}(h:Fr S a w){g:Nat}(hg:a.heap.size<=g)(cs:Array Value):Fr S a (w.setRow g cs) :=
 ⟨h.os,h.tape,h.output,by show a.heap.size<=(w.setRow g cs).heap.size;rw[World.setRow];simp only[Array.size_modify];exact h.size,fun k hk hn=>(show(w.setRow g cs).heap[k]?=w.heap[k]? by simp[World.setRow,Array.getElem?_modify,show g≠k by omega]).trans (h.block k hk hn)⟩
theorem nP{w:World}{g:Nat}{vT cs:Array Value}{t:TypeId}(h:w.heap[g]?=some (.cells vT t (0,0))):(w.setRow g cs).heap[g]?=some (.cells cs t (0,0)):=by
 simp[World.setRow,Array.getElem?_modify,h]
theorem U9(base:Nat)(m hd:ByteArray)(r:dp Value)(hs:List dW)(now:Int)(lv:Value)(ps:List ew)(acc:List bI)(v:Value)(br bn bl bp:Nat)(w:World)
  (hr:w.heap[br]?=some (.cells r.cells.toArray 29 (0,0)))(hn:w.heap[bn]?=some (.cells #[.int .i64 now] 3 (0,0)))(hl:w.heap[bl]?=some (.cells #[lv] 27 (0,0)))(hp:w.heap[bp]?=some (.cells #[v] 60 (0,0)))
  (Gi:gu w lv ps)(hz:fT ps)(a_:OwnRows base 65 12 w v (acc.map bI.cells))(hb:base<=bp)(hlen:acc.length<1000000)(n0:0<=now)(n1:now<=1099511627776) :
  Calls Tryz.prog 129 #[.string m,.string hd,.pointer (some ⟨br,0,none⟩),.pointer (some ⟨bn,0,none⟩),.pointer (some ⟨bl,0,none⟩),.pointer (some ⟨bp,0,none⟩)] w fun e w'=>e=.returned (.tuple #[])/\∃v',w'.heap[bp]?=some (.cells #[v'] 60 (0,0))/\OwnRows base 65 12 w' v' ((kJ acc ((r.bF hs).xF (now+iB ps) m hd)).map bI.cells)/\Fr (fun k=>k=bp\/own v k) w w':=by
 have hag:=Gd ps;have aht:=O (show∀U,Fr ay w U->Calls Tryz.prog 26 #[lv] U fun e w'=>e=.returned (.int .i64 (iB ps))/\Fr ay U w' from fun U hU=>U7 lv ps U (aN.bu Gi hU) hz);obtain⟨al,cl,hlv⟩:=aN.form Gi;rw[List.length_map]at hlv;subst hlv
 have HC:=O (show∀U,Fr ay w U->(U.cell? ⟨br,1,none⟩=some (.bool r.aI.ae)/\U.cell? ⟨br,2,none⟩=some (.string r.aI.host)/\U.cell? ⟨br,3,none⟩=some (.int .i64 r.aI.port)/\U.cell? ⟨br,4,none⟩=some (.bool r.o.ae)/\U.cell? ⟨br,5,none⟩=some (.string r.o.host)/\U.cell? ⟨br,6,none⟩=some (.int .i64 r.o.port)/\U.cell? ⟨br,7,none⟩=some (.string r.path)/\U.cell? ⟨br,8,none⟩=some (.string r.query)/\U.cell? ⟨br,11,none⟩=some (.bool r.bP)/\U.cell? ⟨bn,0,none⟩=some (.int .i64 now)/\U.cell? ⟨bl,0,none⟩=some (.slice al ps.length cl))from fun U hU=>by
  have j:=hU.keep hr (fun h=>h);have hc:∀i u,r.cells[i]?=some u->U.cell? ⟨br,i,none⟩=some u:=fun i u hu=>by simp only[World.cell?,j];simpa using hu
  exact⟨hc 1 _ rfl,hc 2 _ rfl,hc 3 _ rfl,hc 4 _ rfl,hc 5 _ rfl,hc 6 _ rfl,hc 7 _ rfl,hc 8 _ rfl,hc 11 _ rfl,by simp[World.cell?,hU.keep hn (fun h=>h)],by simp[World.cell?,hU.keep hl (fun h=>h)]⟩)
 obtain⟨X,hX⟩:∃X,X=(r.bF hs).xF (now+iB ps) m hd:=⟨_,rfl⟩;obtain⟨x,hx⟩:∃x,x=X.cells:=⟨_,rfl⟩;have gD:x.length=12:=by rw[hx];rfl
 have qY:=O (show∀u∈x,u.oneCell'=true from by rw[hx];exact PD X);have Eg:=tD x #[.bool false,.string ⟨#[]⟩,.int .i64 0,.bool false,.string ⟨#[]⟩,.int .i64 0,.string ⟨#[]⟩,.string ⟨#[]⟩,.bool false,.string ⟨#[]⟩,.string ⟨#[]⟩,.int .i64 0] (by rw[gD];rfl);have HX:=O hx
 have HXC:=O (show x.toArray= #[.bool r.aI.ae,.string r.aI.host,.int .i64 r.aI.port,.bool r.o.ae,.string r.o.host,.int .i64 r.o.port,.string r.path,.string r.query,.bool r.bP,.string m,.string hd,.int .i64 (now+iB ps)]by rw[hx,hX];rfl);rw[<-hX];clear hX hx;have ato:IntKind.i64.wrap (now+iB ps)=now+iB ps:=by rw[IntWalk.i64_left];exact IntWalk.wrap64_in _ (by omega)
 clear hr hn hl Gi hz;go_enter Tryz.func129,Tryz.ntmps129;go_wp2_with fail
 refine wp_region_held_drew (S:=(fun U=>U.cell? ⟨br,1,none⟩=some (.bool r.aI.ae)/\U.cell? ⟨br,2,none⟩=some (.string r.aI.host)/\U.cell? ⟨br,3,none⟩=some (.int .i64 r.aI.port)/\U.cell? ⟨br,4,none⟩=some (.bool r.o.ae)/\U.cell? ⟨br,5,none⟩=some (.string r.o.host)/\U.cell? ⟨br,6,none⟩=some (.int .i64 r.o.port)/\U.cell? ⟨br,7,none⟩=some (.string r.path)/\U.cell? ⟨br,8,none⟩=some (.string r.query)/\U.cell? ⟨br,11,none⟩=some (.bool r.bP)/\U.cell? ⟨bn,0,none⟩=some (.int .i64 now)/\U.cell? ⟨bl,0,none⟩=some (.slice al ps.length cl))) (by kernel_rfl) (HC.out _ (Fr.refl ay w).drew) ?_
 intro cW;refine tk 0 ⟨some 9,_,_,_,_,_⟩ (v:=?_) rfl (by rfl) ?hy ?_
 case hy=>(intro w hSw;(try dsimp only at hSw);go_simp<;>with_reducible rfl)
 try simp only[Act.put,sA,sB,sC]
 refine tk 1 ⟨some 10,_,_,_,_,_⟩ (v:=?_) rfl (by rfl) ?hy ?_
 case hy=>(intro w hSw;(try dsimp only at hSw);go_simp<;>with_reducible rfl)
 try simp only[Act.put,sA,sB,sC]
 refine tk 2 ⟨some 11,_,_,_,_,_⟩ (v:=?_) rfl (by rfl) ?hy ?_
 case hy=>(intro w hSw;(try dsimp only at hSw);go_simp<;>with_reducible rfl)
 try simp only[Act.put,sA,sB,sC]
 refine tk 3 ⟨some 12,_,_,_,_,_⟩ (v:=?_) rfl (by rfl) ?hy ?_
 case hy=>(intro w hSw;(try dsimp only at hSw);go_simp<;>with_reducible rfl)
 try simp only[Act.put,sA,sB,sC]
 refine tk 4 ⟨some 13,_,_,_,_,_⟩ (v:=?_) rfl (by rfl) ?hy ?_
 case hy=>(intro w hSw;(try dsimp only at hSw);go_simp<;>with_reducible rfl)
 try simp only[Act.put,sA,sB,sC]
 refine tk 5 ⟨some 14,_,_,_,_,_⟩ (v:=?_) rfl (by rfl) ?hy ?_
 case hy=>(intro w hSw;(try dsimp only at hSw);go_simp<;>with_reducible rfl)
 try simp only[Act.put,sA,sB,sC]
 refine tk 6 ⟨some 15,_,_,_,_,_⟩ (v:=?_) rfl (by rfl) ?hy ?_
 case hy=>(intro w hSw;(try dsimp only at hSw);go_simp<;>with_reducible rfl)
 try simp only[Act.put,sA,sB,sC]
 refine tk 7 ⟨some 16,_,_,_,_,_⟩ (v:=?_) rfl (by rfl) ?hy ?_
 case hy=>(intro w hSw;(try dsimp only at hSw);go_simp<;>with_reducible rfl)
 try simp only[Act.put,sA,sB,sC]
 refine tk 8 ⟨some 17,_,_,_,_,_⟩ (v:=?_) rfl (by rfl) ?hy ?_
 case hy=>(intro w hSw;(try dsimp only at hSw);go_simp<;>with_reducible rfl)
 try simp only[Act.put,sA,sB,sC]
 refine tk 9 ⟨some 18,_,_,_,_,_⟩ (v:=?_) rfl (by rfl) ?hy ?_
 case hy=>(intro w hSw;(try dsimp only at hSw);go_simp<;>with_reducible rfl)
 try simp only[Act.put,sA,sB,sC]
 refine wpAnyH_ready (rs:=[10,13]) (by kernel_rfl) (by simp) ?_;refine AllReadyH.cons rfl (fun K hK=>?hA) (AllReadyH.cons rfl (fun K hK=>?hB) AllReadyH.nil)
 case' hA =>
  go_simp;refine(aht.out _ (Fr.refl ay w).drew).mono ?_;rintro e u⟨rfl,hu⟩;have HU:=O (show Fr ay w u from((Fr.refl ay w).drew).trans hu);refine hK.out _ _ (HC.out _ HU.out) ?_;intro CY;clear hK cW hu K
  try simp only[Act.put,sA,sB,sC]
  refine tk 11 ⟨some 20,_,_,_,_,_⟩ (v:=?_) rfl (by rfl) ?hy ?_
  case hy=>(intro w hSw;(try dsimp only at hSw);go_simp<;>with_reducible rfl)
  try simp only[Act.put,sA,sB,sC]
  refine wpAnyH_take (i:=12) (oi:=⟨some 21,_,_,_,_,_⟩) (v:=.agg #[.bool r.aI.ae,.string r.aI.host,.int .i64 r.aI.port,.bool r.o.ae,.string r.o.host,.int .i64 r.o.port,.string r.path,.string r.query,.bool r.bP,.string m,.string hd,.int .i64 (now+iB ps)]) rfl (by kernel_rfl) (by kernel_rfl) (by kernel_rfl) (fun _ _ _ h=>h) (oY rfl (.tmp 10) (.tmp 12) (.tmp 14) (.tmp 15) (.tmp 16) (.tmp 20) rfl r.aI.ae r.o.ae r.bP r.aI.host r.o.host r.path r.query m hd r.aI.port r.o.port (now+iB ps) rfl rfl rfl rfl rfl rfl) (by assumption) ?_
  try simp only[Act.put,sA,sB,sC]
  refine wpAnyH_ready (rs:=[13]) (by kernel_rfl) (by simp) ?_;refine AllReadyH.cons rfl (fun K hK=>?_) AllReadyH.nil;go_simp;obtain⟨bx,Cm⟩:∃bx,bx=u.heap.size:=⟨_,rfl⟩;obtain⟨w3,Oa⟩:∃w3,w3=u.alloc (.cells zF 65):=⟨_,rfl⟩;have HZB:=O (show w3.heap[bx]?=some (.cells zF 65 (0,0))from by rw[Oa,Cm];exact af _ _);have JV:=O (show Fr ay w w3 from by rw[Oa];exact HU.out.alloc _)
  have mB:w.heap.size<=bx:=by rw[Cm];exact HU.out.size
  rw[<-Oa, <-Cm];refine hK.out _ _ (HC.out _ JV.out) ?_;intro G_;clear hK CY K Oa Cm
 case' hB =>
  go_simp;obtain⟨bx,Cm⟩:∃bx,bx=w.heap.size:=⟨_,rfl⟩;obtain⟨w2,U_⟩:∃w2,w2=(w.alloc (.cells zF 65)).drew:=⟨_,rfl⟩;have gU:w2.heap[bx]?=some (.cells zF 65 (0,0)):=by rw[U_,Cm];exact af _ _
  have Va:Fr ay w w2:=by rw[U_];exact((Fr.refl _ _).alloc _).drew
  have mB:w.heap.size<=bx:=by rw[Cm];exact Nat.le_refl _
  rw[<-U_, <-Cm];refine hK.out _ _ (HC.out _ Va) ?_;intro CY;clear hK cW K U_ Cm
  try simp only[Act.put,sA,sB,sC]
  refine wpAnyH_ready (rs:=[10]) (by kernel_rfl) (by simp) ?_;refine AllReadyH.cons rfl (fun K hK=>?_) AllReadyH.nil;go_simp;refine(aht.out _ Va).mono ?_;rintro e w3⟨rfl,hu⟩;have HZB:=O (hu.keep gU (fun h=>h));have JV:=O (Va.trans hu);refine hK.out _ _ (HC.out _ JV.out) ?_;intro G_;clear hK CY hu K gU Va
  try simp only[Act.put,sA,sB,sC]
  refine tk 11 ⟨some 20,_,_,_,_,_⟩ (v:=?_) rfl (by rfl) ?hy ?_
  case hy=>(intro w hSw;(try dsimp only at hSw);go_simp<;>with_reducible rfl)
  try simp only[Act.put,sA,sB,sC]
  refine wpAnyH_take (i:=12) (oi:=⟨some 21,_,_,_,_,_⟩) (v:=.agg #[.bool r.aI.ae,.string r.aI.host,.int .i64 r.aI.port,.bool r.o.ae,.string r.o.host,.int .i64 r.o.port,.string r.path,.string r.query,.bool r.bP,.string m,.string hd,.int .i64 (now+iB ps)]) rfl (by kernel_rfl) (by kernel_rfl) (by kernel_rfl) (fun _ _ _ h=>h) (oY rfl (.tmp 10) (.tmp 12) (.tmp 14) (.tmp 15) (.tmp 16) (.tmp 20) rfl r.aI.ae r.o.ae r.bP r.aI.host r.o.host r.path r.query m hd r.aI.port r.o.port (now+iB ps) rfl rfl rfl rfl rfl rfl) (by assumption) ?_
 all_goals
  try simp only[Act.put,sA,sB,sC]
  refine wpAnyH_ready (rs:=[14]) (by kernel_rfl) (by simp) ?_;refine AllReadyH.cons rfl (fun K hK=>?_) AllReadyH.nil
  refine yN rfl 65 (.tmp 8) (.tmp 21) rfl bx #[.bool r.aI.ae,.string r.aI.host,.int .i64 r.aI.port,.bool r.o.ae,.string r.o.host,.int .i64 r.o.port,.string r.path,.string r.query,.bool r.bP,.string m,.string hd,.int .i64 (now+iB ps)] rfl rfl 65 zF HZB.out (by kernel_rfl) rfl (by simp[Value.oneCell']) ?_
  obtain⟨W,hW⟩:∃W,W=w3.setRow bx #[.bool r.aI.ae,.string r.aI.host,.int .i64 r.aI.port,.bool r.o.ae,.string r.o.host,.int .i64 r.o.port,.string r.path,.string r.query,.bool r.bP,.string m,.string hd,.int .i64 (now+iB ps)]:=⟨_,rfl⟩;have wB:Fr ay w W:=by rw[hW];exact jv JV.out mB _
  have Vb:W.heap[bx]?=some (.cells x.toArray 65 (0,0)):=by rw[hW,HXC.out];exact nP HZB.out
  rw[<-hW];refine hK.out _ _ (HC.out _ wB) ?_;intro hS4;clear hK hS4 K hW HZB JV
  try simp only[Act.put,List.setIfInBounds_toArray]
  refine wpAnyH_done (by kernel_rfl) ?_ _;have HWF:=O wB;have M6:=O Vb;obtain⟨Vc,Vd,WV⟩:=a_.form;rw[List.length_map]at WV;subst WV;have HCT:=O (show Calls Tryz.prog 130 #[.slice Vc acc.length Vd,.agg x.toArray] W fun e w'=>e=.returned (.bool (acc.any (fun q=>X.eN q)))/\Fr ay W w' from by rw[HX.out];exact EM _ acc X W (aN.bu a_.at wB))
  have Xr:=O (show∀U,Fr (own (.slice Vc acc.length Vd)) w U->U.heap[bp]?=some (.cells #[.slice Vc acc.length Vd] 60 (0,0))from fun U hU=>hU.keep hp (fun hk=>by
   obtain⟨cc,e⟩:=a_.PC hk;rw[hp]at e;cases e))
  have LQ:=O (fun U (hU:Fr ay w U)=>a_.fr hU (fun _ _ h=>h));have d5:W.cell? ⟨bp,0,none⟩=some (.slice Vc acc.length Vd):=by simp[World.cell?,Xr.out W (wB.mono (fun _ _ h=>absurd h (fun h=>h)))]
  have WG:(Tryz.prog.info? 65).map (·.size)=some x.toArray.size:=by rw[List.size_toArray];exact vd gD
  have HXS:=O WG;have jt:base<=W.heap.size:=by have h1:=wB.size;have h2:=aj hp;omega
  clear hp a_ wB Vb WG;go_wp2_with (first|((with_reducible refine ag ⟨some 23,_,_,_,_,_⟩ ?_);go_must(refine wpList_load_row rfl 65 (.tmp 8) rfl bx rfl _ x.toArray (0,0) _ M6.out Tryz.underlying65 rfl HXS.out ?_))|fail)
  refine HCT.out.mono ?_;rintro e u2⟨rfl,jZ⟩;have ql:=O (HWF.out.trans jZ);have Xs:=O (jZ.keep M6.out (fun h=>h));have Ja:=O (LQ.out u2 ql.out);have fC:=Xr.out u2 (ql.out.mono (fun _ _ h=>absurd h (fun h=>h)));have d6:u2.cell? ⟨bp,0,none⟩=some (.slice Vc acc.length Vd):=by simp[World.cell?,fC]
  have bK:base<=u2.heap.size:=by have:=jZ.size;omega
  clear jZ d5 HCT;cases dL:acc.any (fun q=>X.eN q)
  ·have G':=O (show kJ acc X=acc++[X]by
    unfold kJ;rw[if_neg];rw[EN,dL];decide)
   clear dL
   go_wp2_with (first|((with_reducible refine ag ⟨some 27,_,_,_,_,_⟩ ?_);go_must(refine wpList_load_row rfl 65 (.tmp 8) rfl bx rfl _ x.toArray (0,0) _ Xs.out Tryz.underlying65 rfl HXS.out ?_))|(at_builtin;go_must(refine lR rfl _ _ 60 65 rfl 12 144 (.agg zF) Tryz.underlying60 G9 rfl (by decide) (by decide) base (.slice Vc acc.length Vd) (acc.map bI.cells) rfl (Ja.out.alloc _) u2.heap.size 1 x rfl gD qY.out (fun i u hi=>by rw[World.cell?_alloc_mark];simpa using hi) (by rw[List.length_map];omega) (by simp;omega) ?_);intro v' w4 cZ Ag;obtain⟨a4,c4,SJ⟩:=cZ.form;subst SJ;have fu:Fr (own (.slice Vc acc.length Vd)) u2 w4:=Fr.grown ((Fr.refl _ u2).alloc (.cells x.toArray 65)) Ag (fun k hk _=>hk);have ph:=Xr.out w4 ((ql.out.mono (fun _ _ h=>absurd h (fun h=>h))).step fu (fun _ _ h=>h));have k4:w4.cell? ⟨bp,0,none⟩=some (.slice Vc acc.length Vd):=(by simp[World.cell?,ph]);have e4:w4.frozen? ⟨bp,0,none⟩=false:=(by simp[World.frozen?,ph]))|fail)
   clear Eg;go_end0;refine⟨rfl,_,aP ph 0 _,?_,?_⟩
   ·rw[G'.out,List.map_append,List.map_cons,List.map_nil, <-HX.out];have Eo:OwnRows base 65 12 w4 (.slice a4 (acc.length+1) c4) (acc.map bI.cells++[x]):=by
     have h:=cZ;rw[List.length_append,List.length_map,List.length_singleton]at h;exact h
    have fM:Fr (one bp) w4 (w4.setCell ⟨bp,0,none⟩ (.slice a4 (acc.length+1) c4)):=(Fr.refl (one bp) w4).setCell (p:=⟨bp,0,none⟩) (fun _=>rfl) _;refine Eo.fr fM ?_;intro k hk e;obtain⟨cc,ek⟩:=Eo.PC hk;have e:k=bp:=e;rw[e,ph]at ek;cases ek
   ·exact(Fr.step (S:=fun k=>k=bp\/own (.slice Vc acc.length Vd) k) (ql.out.mono (fun _ _ h=>absurd h (fun h=>h))) fu (fun _ _ h=>Or.inr h)).setCell (p:=⟨bp,0,none⟩) (fun _=>Or.inl rfl) _
  ·have G':=O (show kJ acc X=acc by
    unfold kJ;rw[if_pos];rw[EN,dL])
   clear dL;go_wp2;go_end0;exact⟨rfl,_,fC,by rw[G'.out];exact Ja.out,ql.out.mono (fun _ _ h=>absurd h (fun h=>h))⟩
end Go.Proofs.YtjdmjbdkdmbaiaaGreatDoor
