/- OpBlk, TbPure, LivedP, PartSeq, BSl, CellsP, ScrPure, Attach, WCopy, FrameP, MvV, WNew, TbLin, Scr1, DoP, TbBlk, TbEnds, TbOne, Dotick. -/
import Derived.Test.YtpkkncoddhkfkaaGreatDoorPk3
import Derived.Great.BuildSlice
import Derived.Deep.Onto
set_option maxRecDepth 100000
set_option maxHeartbeats 16000000
set_option linter.unusedSimpArgs false
namespace Go.Proofs.YtpkkncoddhkfkaaGreatDoor
open Go.Proofs.Tryz
open Go.RowKit
variable {w W U:World} {o n b ch p i b' k base B T j:Nat} {hs:List dP} {t:TypeId} {ah:Option Addr} {x:bu} {v u:Value} {pv:Nat->bh} {S:Nat->Prop} {cs:List Value}
def bG:Array Value:= #[.int .i64 0,.string ⟨#[]⟩,.int .i64 0]
theorem dL.ew{o:dK}(h:dL w o hs):∃ah ch,o.ak.bo=.slice ah hs.length ch:=by
 obtain⟨a,c,e⟩:=cz.form h.bo;rw[ag]at e;exact⟨a,c,e⟩
section
variable {base : Nat} {w w' : World} {B o : Nat} {cs : List Value} {v : bh} {p : cy}
theorem cS.pV(h:cS base w v p){old:Array Value}(hn:w.heap[n]?=some (.cells old t (0,0)))(ht:t≠101/\t≠137/\t≠156/\t≠104/\t≠179/\t≠109):¬v.eT n:=fun hf=>by
 obtain⟨c,t',e,h'⟩:=h.ek hf;rw[hn]at e;cases e;obtain⟨h1,h2,h3,h4,h5,h6⟩:=ht;rcases h' with h|h|h|h|h|h
 ·exact h1 h
 ·exact h2 h
 ·exact h3 h
 ·exact h4 h
 ·exact h5 h
 ·exact h6 h
end
theorem aX(x:Array Value)(h:x.size=3):(prog.info? 51).map (·.size)=some x.size:=by rw[h];kernel_rfl
theorem iq{o:dK}(h:w.heap[b]?=some (.cells o.cells.toArray 35 (0,0)))(hh:o.ak.bo=.slice ah hs.length ch):w.cell? ⟨b,0,none⟩=some (.int .i64 o.what)/\w.cell? ⟨b,1,none⟩=some (.int .i64 o.ak.part)/\w.cell? ⟨b,2,none⟩=some (.bool o.ak.bg.ao)/\w.cell? ⟨b,3,none⟩=some (.string o.ak.bg.host)/\w.cell? ⟨b,4,none⟩=some (.int .i64 o.ak.bg.port)/\w.cell? ⟨b,5,none⟩=some (.bool o.ak.o.ao)/\w.cell? ⟨b,6,none⟩=some (.string o.ak.o.host)/\w.cell? ⟨b,7,none⟩=some (.int .i64 o.ak.o.port)/\w.cell? ⟨b,8,none⟩=some (.string o.ak.path)/\w.cell? ⟨b,9,none⟩=some (.string o.ak.query)/\w.cell? ⟨b,10,none⟩=some (.string o.ak.method)/\w.cell? ⟨b,11,none⟩=some (.slice ah hs.length ch)/\w.cell? ⟨b,12,none⟩=some (.bool o.ak.dB)/\w.cell? ⟨b,13,none⟩=some (.string o.ak.body)/\w.cell? ⟨b,14,none⟩=some (.bool o.proxy)/\w.cell? ⟨b,15,none⟩=some (.string o.text)/\w.cell? ⟨b,16,none⟩=some (.string o.user)/\w.cell? ⟨b,17,none⟩=some (.string o.pass)/\w.cell? ⟨b,18,none⟩=some (.string o.aW)/\w.cell? ⟨b,19,none⟩=some (.int .i64 o.cert)/\w.cell? ⟨b,20,none⟩=some (.bool o.all)/\w.cell? ⟨b,21,none⟩=some (.int .i64 o.n):=by
 have e:o.cells=[.int .i64 o.what,.int .i64 o.ak.part,.bool o.ak.bg.ao,.string o.ak.bg.host,.int .i64 o.ak.bg.port,.bool o.ak.o.ao,.string o.ak.o.host,.int .i64 o.ak.o.port,.string o.ak.path,.string o.ak.query,.string o.ak.method,.slice ah hs.length ch,.bool o.ak.dB,.string o.ak.body,.bool o.proxy,.string o.text,.string o.user,.string o.pass,.string o.aW,.int .i64 o.cert,.bool o.all,.int .i64 o.n]:=by unfold dK.cells fe.cells;rw[hh];rfl
 rw[e]at h;simp only[World.cell?,h];exact⟨rfl,rfl,rfl,rfl,rfl,rfl,rfl,rfl,rfl,rfl,rfl,rfl,rfl,rfl,rfl,rfl,rfl,rfl,rfl,rfl,rfl,rfl⟩
theorem dz{o:dK}(hh:o.ak.bo=.slice ah hs.length ch):o.cells=[.int .i64 o.what,.int .i64 o.ak.part,.bool o.ak.bg.ao,.string o.ak.bg.host,.int .i64 o.ak.bg.port,.bool o.ak.o.ao,.string o.ak.o.host,.int .i64 o.ak.o.port,.string o.ak.path,.string o.ak.query,.string o.ak.method,.slice ah hs.length ch,.bool o.ak.dB,.string o.ak.body,.bool o.proxy,.string o.text,.string o.user,.string o.pass,.string o.aW,.int .i64 o.cert,.bool o.all,.int .i64 o.n]:=by unfold dK.cells fe.cells;rw[hh];rfl
structure gM where
 does:Nat
 op:df
 fails:Nat
 dZ:Int
 seen:bu
 num:Nat->Nat->Int
 cP:dG
def sT:df:=⟨0,0,⟨false,.empty,0⟩,⟨false,.empty,0⟩,.empty,.empty,.empty,[],false,.empty,false,.empty,.empty,.empty,.empty,0,false,0⟩
def cF:gM:=⟨0,sT,0,0,lW,fun _ _=>0,rep 0⟩
structure sU where
 tab:Nat
 op:df
 cP:dG
 dZ:Int
 fin:Int
structure cX where
 w:bu
 num:Nat->Nat->Int
 tab:Nat->gM
 steps:Int
 cI:List sU
def il:cX:=⟨lW,fun _ _=>0,fun _=>cF,0,[]⟩
def cX.put(t:cX)(n:Nat)(x:gM):cX:={t with tab:=fun i=>if i=n then x else t.tab i}
def dw(o:df):List (Nat×Nat):=[0,1,2,3].filterMap fun i=>if(bd o).1.testBit i then some (if i=3 then 0 else o.part.toNat,i)else none
def kX(o:df)(f:Nat->Nat->Int):List Int:=(dw o).map fun c=>f c.1 c.2
def kY(o:df)(f:Nat->Nat->Int):Nat->Nat->Int:=fun p i=>if(p,i)∈dw o then f p i+1 else f p i
def dV(t:cX)(n:Nat)(r:dG):cX :=
 {t with cI:=t.cI++[⟨n,(t.tab n).op,r,(t.tab n).dZ,t.steps⟩],tab:=fun i=>if i=n then cF else t.tab i}
def cV(t:cX)(n:Nat):cX×(dG×Bool) :=
 if kX (t.tab n).op t.num=kX (t.tab n).op (t.tab n).num then
  (dV (if(bd (t.tab n).op).2 then{t with w:=dH t.w (t.tab n).seen (t.tab n).op.part (bd (t.tab n).op).1,num:=kY (t.tab n).op t.num}else t) n (t.tab n).cP,(t.tab n).cP,true)
 else if(t.tab n).fails+1<=3 then(t.put n {t.tab n with fails:=(t.tab n).fails+1,does:=1},rep 0,false)
 else(dV (t.put n {t.tab n with fails:=(t.tab n).fails+1}) n (rep 6),rep 6,true)
def stepT(t:cX)(n:Nat):cX×(dG×Bool) :=
 if(t.tab n).does=1 then({(t.put n {t.tab n with seen:=t.w,num:=t.num,does:=2})with steps:=t.steps+1},rep 0,false)
 else if(t.tab n).does=2 then({(t.put n {t.tab n with cP:=(fX (t.tab n).seen (t.tab n).op).2,seen:=(fX (t.tab n).seen (t.tab n).op).1,does:=3})with steps:=t.steps+1},rep 0,false)
 else cV {t with steps:=t.steps+1} n
def nk(n:Int):Bool:=decide (0<=n)&&decide (n<6)
def dW(t:cX)(n:Int):cX×(dG×Bool×Nat) :=
 if nk n then
  if(t.tab n.toNat).does=0 then(t,rep 0,false,8)else((stepT t n.toNat).1,(stepT t n.toNat).2.1,(stepT t n.toNat).2.2,0)
 else(t,rep 0,false,2)
def kF(t:cX)(n:Int)(o:df):cX×Nat :=
 if nk n then
  if(t.tab n.toNat).does=0 then({(t.put n.toNat {cF with does:=1,op:=o,dZ:=t.steps+1})with steps:=t.steps+1},0)else(t,6)
 else(t,2)
structure B4 where
 kind:Int
 tab:Int
 op:df
theorem sV{o:df}:(p,i)∈dw o↔i<4/\(bd o).1.testBit i=true/\p=(if i=3 then 0 else o.part.toNat):=by
 unfold dw;simp only[List.mem_filterMap,aD,aZ,ct];constructor
 ·rintro⟨j,hj,h⟩;split at h
  ·rename_i hb;simp only[bw,cu]at h;obtain⟨h1,rfl⟩:=h;exact⟨ab,hb,h1.symm⟩
  ·cases h
 ·rintro⟨h1,h2,h3⟩;exact⟨i,ab,by rw[aq h2,h3]⟩
structure fG (x:bu):Prop where
 ok:j5 x
 sm:j7 x
 path:j8 x
theorem fG.new:fG lW:=⟨j5.new,j7.new,j8.new⟩
theorem fG.fX(h:fG x)(o:df)(hu:o.user.size<=5000)(hp:o.pass.size<=5000)(ha:o.path.size<=5000):fG (fX x o).1 :=
 ⟨h.ok.fX o,h.sm.fX o hu hp,h.path.fX o ha⟩
def bP(t:TypeId):Prop:=t≠101/\t≠137/\t≠156/\t≠104/\t≠179/\t≠109
theorem s7:bP 35:=by unfold bP;decide
theorem iW:bP 51:=by unfold bP;decide
theorem gV{P:Program}{ops:Array Oper}{rest:List Oper}{o:Oper}{a:Act}{w:World}{Q:Exit->Act->World->Prop}(hg:o.guard=none)(t e:TypeId)(len:Nat)(parts:Array (Nat×Operand))(ho:o.op=.buildSlice t len parts)(dst:Option Tmp)(oG:o.dst=dst)
  (cells:Array Value)(ie:TypeInfo)(z:Value)(vs:List (Nat×Value))(he:(parts.map fun(i,x)=>(i,a.eval x)).toList=vs)
  (hu:P.underlying t=some (.slice e))(yX:P.info? e=some ie)(hz:ie.zero=some z)(oH:¬len*ie.size>2^24)(yY:¬len*ie.size=0)
  (hf:Instr.fill (fun i=>some (i*ie.size,ie.size)) ((Array.range (len*ie.size)).map (z.cells[· %z.cells.size]!)) vs=some cells)(N:Nat)(hN:w.heap.size=N)
  (h:wpList P ops Q rest (a.put dst (.slice (some ⟨N,0,none⟩) len len)) (w.alloc (.cells cells e))):wpList P ops Q (o :: rest) a w:=by
 subst oG hN;exact wpList_buildSlice hg t e len parts ho cells ie z hu yX hz oH yY (by rw[he];exact hf) h
theorem tu(o:dK)(hh:o.ak.bo=.slice ah n ch):∀u∈o.cells,u.oneCell'=true:=by
 unfold dK.cells fe.cells;rw[hh];intro u hu;simp only[cN,bz,aD,aZ,ct]at hu;rcases hu with rfl|rfl|rfl|rfl|rfl|rfl|rfl|rfl|rfl|rfl|rfl|rfl|rfl|rfl|rfl|rfl|rfl|rfl|rfl|rfl|rfl|rfl<;>rfl
theorem eo(w:World)(o:dK)(hs:List dP)(hf:dL w o hs) :
  Calls prog 7 #[.agg o.cells.toArray] w fun e w'=>e=.returned (.tuple #[.int .i64 ((bd (o.cH hs)).1:Nat),.bool (bd (o.cH hs)).2])/\Fr aU w w':=by
 obtain⟨ah,ch,eK⟩:=hf.ew;obtain⟨w2,ks⟩:∃w2,w2=w.alloc (.cells o.cells.toArray 35):=⟨_,rfl⟩;have gB:Fr aU w w2:=by rw[ks];exact(Fr.refl aU w).alloc _
 have k1:w2.heap[w.heap.size]?=some (.cells o.cells.toArray 35 (0,0)):=by rw[ks];exact aB _ _
 have zo:=O (ld o hs w2 (hf.dv gB));obtain⟨a0,a1,a2,a3,a4,a5,a6,a7,a8,a9,uF,uG,a12,uH,uI,mA,uJ,uK,uL,uM,a20,a21⟩:=iq k1 eK;have Av:=O k1;have o6:=O eK;have gL:=O gB;rw[ks]at a0 a1 a2 a3 a4 a5 a6 a7 a8 a9 uF uG a12 uH uI mA uJ uK uL uM a20 a21;rw[dz eK]at ks zo a0 a1 a2 a3 a4 a5 a6 a7 a8 a9 uF uG a12 uH uI mA uJ uK uL uM a20 a21 ⊢;have qH:=O ks;clear ks eK gB k1 hf;go_enter func7,ntmps7
 have ku:=O (aB w (.cells #[.int .i64 o.what,.int .i64 o.ak.part,.bool o.ak.bg.ao,.string o.ak.bg.host,.int .i64 o.ak.bg.port,.bool o.ak.o.ao,.string o.ak.o.host,.int .i64 o.ak.o.port,.string o.ak.path,.string o.ak.query,.string o.ak.method,.slice ah hs.length ch,.bool o.ak.dB,.string o.ak.body,.bool o.proxy,.string o.text,.string o.user,.string o.pass,.string o.aW,.int .i64 o.cert,.bool o.all,.int .i64 o.n] 35))
 go_wp2_with (first|((with_reducible refine dC 4 ?_);go_must(refine wpList_load_row rfl 35 (.tmp 1) rfl w.heap.size rfl _ #[.int .i64 o.what,.int .i64 o.ak.part,.bool o.ak.bg.ao,.string o.ak.bg.host,.int .i64 o.ak.bg.port,.bool o.ak.o.ao,.string o.ak.o.host,.int .i64 o.ak.o.port,.string o.ak.path,.string o.ak.query,.string o.ak.method,.slice ah hs.length ch,.bool o.ak.dB,.string o.ak.body,.bool o.proxy,.string o.text,.string o.user,.string o.pass,.string o.aW,.int .i64 o.cert,.bool o.all,.int .i64 o.n] (0,0) _ ku.o underlying35 rfl af ?_))|fail)
 rw[<-qH.o];refine zo.o.mono ?_;rintro e u⟨rfl,hu⟩;clear a0 a1 a2 a3 a4 a5 a6 a7 a8 a9 uF uG a12 uH uI mA uJ uK uL uM a20 a21 zo;obtain⟨a0,a1,a2,a3,a4,a5,a6,a7,a8,a9,uF,uG,a12,uH,uI,mA,uJ,uK,uL,uM,a20,a21⟩:=iq (hu.keep Av.o (fun h=>h)) o6.o;have HU:=O (gL.o.trans hu);clear hu;cases hr:(o.cH hs).right
 ·have HC:=O (show bd (o.cH hs)=(0,false)by unfold bd;rw[hr];rfl);clear hr;go_wp2;go_ret2;rw[HC.o];exact⟨rfl,HU.o⟩
 ·have Cx:=hr;unfold df.right at Cx;simp only[aY,cE]at Cx;have GM:1<=o.what:=Cx.1;have Ft:o.what<=10:=Cx.2.1;clear Cx;have HC:=O (show bd (o.cH hs)=if o.what=1\/o.what=2\/o.what=3\/o.what=8 then(1,true)else if o.what=4 then(10,false)else if o.what=5 then(10,true)else if o.what=6 then(4,false)else if o.what=7 then(4,true)else if o.what=10 then(8,true)else(7,true)by unfold bd;rw[hr];rfl);clear hr
  have hq:o.what=1\/o.what=2\/o.what=3\/o.what=4\/o.what=5\/o.what=6\/o.what=7\/o.what=8\/o.what=9\/o.what=10:=ab;clear GM Ft;rcases hq with hq|hq|hq|hq|hq|hq|hq|hq|hq|hq
  ·as_aux_lemma =>
    rw[hq]at a0 HC;have kx:=O (HC.o.trans (by first|rfl|decide));clear HC;have HQ:=O hq;clear hq;go_wp2;go_ret2;rw[kx.o];exact⟨rfl,HU.o⟩
  ·as_aux_lemma =>
    rw[hq]at a0 HC;have kx:=O (HC.o.trans (by first|rfl|decide));clear HC;have HQ:=O hq;clear hq;go_wp2;go_ret2;rw[kx.o];exact⟨rfl,HU.o⟩
  ·as_aux_lemma =>
    rw[hq]at a0 HC;have kx:=O (HC.o.trans (by first|rfl|decide));clear HC;have HQ:=O hq;clear hq;go_wp2;go_ret2;rw[kx.o];exact⟨rfl,HU.o⟩
  ·as_aux_lemma =>
    rw[hq]at a0 HC;have kx:=O (HC.o.trans (by first|rfl|decide));clear HC;have HQ:=O hq;clear hq;go_wp2;go_ret2;rw[kx.o];exact⟨rfl,HU.o⟩
  ·as_aux_lemma =>
    rw[hq]at a0 HC;have kx:=O (HC.o.trans (by first|rfl|decide));clear HC;have HQ:=O hq;clear hq;go_wp2;go_ret2;rw[kx.o];exact⟨rfl,HU.o⟩
  ·as_aux_lemma =>
    rw[hq]at a0 HC;have kx:=O (HC.o.trans (by first|rfl|decide));clear HC;have HQ:=O hq;clear hq;go_wp2;go_ret2;rw[kx.o];exact⟨rfl,HU.o⟩
  ·as_aux_lemma =>
    rw[hq]at a0 HC;have kx:=O (HC.o.trans (by first|rfl|decide));clear HC;have HQ:=O hq;clear hq;go_wp2;go_ret2;rw[kx.o];exact⟨rfl,HU.o⟩
  ·as_aux_lemma =>
    rw[hq]at a0 HC;have kx:=O (HC.o.trans (by first|rfl|decide));clear HC;have HQ:=O hq;clear hq;go_wp2;go_ret2;rw[kx.o];exact⟨rfl,HU.o⟩
  ·as_aux_lemma =>
    rw[hq]at a0 HC;have kx:=O (HC.o.trans (by first|rfl|decide));clear HC;have HQ:=O hq;clear hq;go_wp2;go_ret2;rw[kx.o];exact⟨rfl,HU.o⟩
  ·as_aux_lemma =>
    rw[hq]at a0 HC;have kx:=O (HC.o.trans (by first|rfl|decide));clear HC;have HQ:=O hq;clear hq;go_wp2;go_ret2;rw[kx.o];exact⟨rfl,HU.o⟩
abbrev Rd(α:Type):Type:=aw->α×aw
def Rd.bind{α β:Type}(f:Rd α)(g:α->Rd β):Rd β:=fun r=>g (f r).1 (f r).2
def Rd.pure{α:Type}(a:α):Rd α:=fun r=>(a,r)
def cY(n:Nat):Rd Nat:=fun r=>match r with
 |[]=>(0,[])
 |c :: r=>(c.toNat%n,r)
def eB(k:Nat):ai:=if k=1 then⟨#[98,46,116,101,115,116]⟩else if k=2 then⟨#[99,46,116,101,115,116]⟩else⟨#[97,46,116,101,115,116]⟩
def et:Rd ef:=Rd.bind (cY 4) fun k=>Rd.pure ⟨decide (k<3),eB k,if k<3 then 443 else 80⟩
def cQ(l:List ai):Rd ai:=Rd.bind (cY l.length) fun k=>Rd.pure (l.getD k .empty)
def t1:List ai:=[⟨#[47]⟩,⟨#[47,97,47]⟩,⟨#[47,97,47,98]⟩,⟨#[47,99]⟩]
def t2:List ai:=[⟨#[71,69,84]⟩,⟨#[80,79,83,84]⟩,⟨#[80,85,84]⟩,⟨#[112,97,116,99,104]⟩]
def t3:List ai:=[⟨#[66,97,115,105,99,32,114,101,97,108,109,61,114]⟩,⟨#[66,97,115,105,99,32,114,101,97,108,109,61,115]⟩,⟨#[68,105,103,101,115,116,32,114,101,97,108,109,61,114,44,32,110,111,110,99,101,61,110,44,32,113,111,112,61,97,117,116,104]⟩,⟨#[68,105,103,101,115,116,32,114,101,97,108,109,61,114,44,32,110,111,110,99,101,61,109,44,32,113,111,112,61,97,117,116,104,44,32,115,116,97,108,101,61,116,114,117,101,44,32,97,108,103,111,114,105,116,104,109,61,83,72,65,45,50,53,54]⟩,⟨#[68,105,103,101,115,116,32,114,101,97,108,109,61,116,44,32,110,111,110,99,101,61,111,44,32,100,111,109,97,105,110,61,34,47,97,47,32,47,99,34]⟩,⟨#[65,99,99,101,115,115,45,67,111,110,116,114,111,108,45,65,108,108,111,119,45,79,114,105,103,105,110,58,32,42,10,65,99,99,101,115,115,45,67,111,110,116,114,111,108,45,65,108,108,111,119,45,77,101,116,104,111,100,115,58,32,80,85,84,44,32,112,97,116,99,104,10,65,99,99,101,115,115,45,67,111,110,116,114,111,108,45,65,108,108,111,119,45,72,101,97,100,101,114,115,58,32,120,45,97,44,32,99,111,110,116,101,110,116,45,116,121,112,101]⟩,⟨#[65,99,99,101,115,115,45,67,111,110,116,114,111,108,45,65,108,108,111,119,45,79,114,105,103,105,110,58,32,104,116,116,112,115,58,47,47,97,46,116,101,115,116,10,65,99,99,101,115,115,45,67,111,110,116,114,111,108,45,65,108,108,111,119,45,67,114,101,100,101,110,116,105,97,108,115,58,32,116,114,117,101,10,65,99,99,101,115,115,45,67,111,110,116,114,111,108,45,65,108,108,111,119,45,77,101,116,104,111,100,115,58,32,80,85,84,10,65,99,99,101,115,115,45,67,111,110,116,114,111,108,45,77,97,120,45,65,103,101,58,32,50,48]⟩,⟨#[]⟩]
def t4:List ai:=[⟨#[117]⟩,⟨#[118]⟩]
def t5:List ai:=[⟨#[112]⟩,⟨#[113]⟩]
def t6:List ai:=[⟨#[99]⟩,⟨#[100]⟩]
def fT(g:Nat):List dP:=if g=0 then []else [(if g=1 then⟨#[88,45,65]⟩else if g=2 then⟨#[67,111,110,116,101,110,116,45,84,121,112,101]⟩else⟨#[65,117,116,104,111,114,105,122,97,116,105,111,110]⟩,⟨#[116,101,120,116,47,104,116,109,108]⟩)]
def nN:Rd df:=Rd.bind (cY 10) fun a=>Rd.bind (cY 2) fun b=>Rd.bind et fun c=>Rd.bind et fun d=>Rd.bind (cQ t1) fun e=>Rd.bind (cQ t2) fun f=>Rd.bind (cY 4) fun g=>Rd.bind (cY 2) fun h=>Rd.bind (cY 4) fun i=>Rd.bind (cQ t3) fun j=>Rd.bind (cQ t4) fun k=>Rd.bind (cQ t5) fun l=>Rd.bind (cQ t6) fun m=>Rd.bind (cY 4) fun n=>Rd.bind (cY 4) fun o=>Rd.bind (cY 10) fun p =>
 Rd.pure ⟨1+(a:Int),b,c,d,e,.empty,f,fT g,decide (h=1),.empty,decide (i=3),j,k,l,m,n,decide (o=3),p⟩
def du:Nat->aw->List B4
 |0,_=>[]
 |_+1,[]=>[]
 |k+1,c :: r =>
  if c.toNat/6%4=1 then⟨1,(c.toNat%6:Nat),(nN r).1⟩ :: du k (nN r).2
  else⟨if c.toNat/6%4=2/\¬c.toNat<128 then 2 else 0,(c.toNat%6:Nat),sT⟩ :: du k r
def Rd.Good{α:Type}(f:Rd α):Prop:=(∀r m,(f r).2≠ []->f (r++m)=((f r).1,(f r).2++m))/\(f []).2=[]
theorem eG(n:Nat):Rd.Good (cY n):=⟨fun r m h=>by
 cases r with
 |nil=>exact absurd rfl h
 |cons c r=>rfl,rfl⟩
theorem iU{α:Type}(a:α):Rd.Good (Rd.pure a):=⟨fun _ _ _=>rfl,rfl⟩
theorem bT{α β:Type}{f:Rd α}{g:α->Rd β}(hf:Rd.Good f)(hg:∀a,Rd.Good (g a)):Rd.Good (Rd.bind f g):=⟨fun r m h=>by
 have h1:(f r).2≠ []:=fun e=>h (by show(g (f r).1 (f r).2).2=[];rw[e];exact(hg _).2);show g (f (r++m)).1 (f (r++m)).2=_;rw[hf.1 r m h1];exact(hg (f r).1).1 (f r).2 m h,by
 show(g (f []).1 (f []).2).2=[];rw[hf.2];exact(hg _).2⟩
theorem np:Rd.Good et:=bT (eG 4) fun _=>iU _
theorem fF(l:List ai):Rd.Good (cQ l):=bT (eG _) fun _=>iU _
theorem vQ:Rd.Good nN:=bT (eG _) fun _=>bT (eG _) fun _=>bT np fun _=>bT np fun _=>bT (fF _) fun _=>bT (fF _) fun _=>bT (eG _) fun _=>bT (eG _) fun _=>bT (eG _) fun _=>bT (fF _) fun _=>bT (fF _) fun _=>bT (fF _) fun _=>bT (fF _) fun _=>bT (eG _) fun _=>bT (eG _) fun _=>bT (eG _) fun _=>iU _
theorem pR(k:Nat):du k []=[]:=by cases k<;>rfl
theorem hD:∀(k:Nat) (s m:aw),(du k s).length<=(du k (s++m)).length/\∀i,i+1<(du k s).length->(du k (s++m))[i]?=(du k s)[i]?
 |0,s,m=>⟨ar _,fun i h=>absurd h (bm _)⟩
 |k+1,[],m=>⟨az _,fun i h=>absurd h (bm _)⟩
 |k+1,c :: r,m=>by
  show(du (k+1) (c :: r)).length<=(du (k+1) (c :: (r++m))).length/\∀i,i+1<(du (k+1) (c :: r)).length->(du (k+1) (c :: (r++m)))[i]?=(du (k+1) (c :: r))[i]?;unfold du;by_cases h1:c.toNat/6%4=1
  ·rw[aq h1,aq h1];by_cases h2:(nN r).2=[]
   ·rw[h2,pR];exact⟨aK,fun i h=>by simp at h⟩
   ·rw[vQ.1 r m h2];obtain⟨i1,i2⟩:=hD k (nN r).2 m;refine⟨by simpa using i1,fun i h=>?_⟩;cases i with
    |zero=>rfl
    |succ i =>
     simp only[List.getElem?_cons_succ];exact i2 i (by simpa using h)
  ·rw[aj h1,aj h1];obtain⟨i1,i2⟩:=hD k r m;refine⟨by simpa using i1,fun i h=>?_⟩;cases i with
   |zero=>rfl
   |succ i =>
    simp only[List.getElem?_cons_succ];exact i2 i (by simpa using h)
theorem jA:∀(k:Nat) (s:aw),(du k s).length<=k
 |0,_=>ar _
 |_+1,[]=>az _
 |k+1,c :: r=>by
  unfold du;split
  ·have:=jA k (nN r).2;simp;omega
  ·have:=jA k r;simp;omega
structure vU (w:World):Prop where
 db:ib w 9 .u8 Bn
 md:lK w
 sh:lL w
section
variable {g : aC aH} {o : df} {s : ByteArray} {U : World} {dom : Value}
end
theorem OwnRows.mono{e:TypeId}{xs:List (List Value)}(h:OwnRows b e k w v xs)(hb:b'<=b):OwnRows b' e k w v xs:=⟨h.1,World.ownsRow.mono h.2 hb⟩
theorem cU.mono{ps:List eV}(h:cU b w n v ps)(hb:b'<=b):cU b' w n v ps:=⟨au hb h.low,h.cR,OwnRows.mono h.rows hb⟩
def zZ(qv:Nat->bh)(k i:Nat):List Value:=if i<k then(qv i).cells else [.pointer none,.pointer none,.slice none 0 0]
def xB(qv:Nat->bh)(now:Int)(k:Nat):List Value:=zZ qv k 0++(zZ qv k 1++(zZ qv k 2++(zZ qv k 3++[.int .i64 now])))
theorem s8(qv:Nat->bh)(now:Int)(hk:k<4)(v:bh):qF (xB qv now k) (k*3) v=xB (iV qv k v) now (k+1):=by
 unfold qF xB zZ iV bh.cells
 match k,hk with
 |0,_=>rfl
 |1,_=>rfl
 |2,_=>rfl
 |3,_=>rfl
theorem yN(qv:Nat->bh)(now:Int)(hk:k<4):(xB qv now k)[k*3]?=some (.pointer none)/\(xB qv now k)[k*3+1]?=some (.pointer none)/\(xB qv now k)[k*3+2]?=some (.slice none 0 0):=by
 unfold xB zZ
 match k,hk with
 |0,_=>exact⟨rfl,rfl,rfl⟩
 |1,_=>exact⟨rfl,rfl,rfl⟩
 |2,_=>exact⟨rfl,rfl,rfl⟩
 |3,_=>exact⟨rfl,rfl,rfl⟩
structure nx (base:Nat) (w:World) (x:bu) (k:Nat) (qv:Nat->bh) (W:World):Prop where
 fr:Fr aU w W
 cR:W.heap[w.heap.size]?=some (.cells (xB qv x.now k).toArray 88 (0,0))
 part:∀i,i<k->cS base W (qv i) (x.part i)
 new:∀i,i<k->∀j,(qv i).eT j->w.heap.size<j
 apart:∀i j,i<k->j<k->i≠j->∀n,(qv i).eT n->¬(qv j).eT n
theorem nx.step{qv:Nat->bh}(h:nx base w x k qv W)(hb:base<=w.heap.size)(hk:k<4)(hU:Fr aU W U){v:bh}(hp:cS base U v (x.part k))(hn:∀j,v.eT j->W.heap.size<=j) :
  nx base w x (k+1) (iV qv k v) (((U.setCell ⟨w.heap.size,k*3,none⟩ (.pointer (some ⟨v.b,0,none⟩))).setCell ⟨w.heap.size,k*3+1,none⟩ (.pointer (some ⟨v.k,0,none⟩))).setCell ⟨w.heap.size,k*3+2,none⟩ v.cv):=by
 have hN:w.heap.size<W.heap.size:=aJ h.cR;have l6:=hU.keep h.cR (fun h=>h);have nL:Fr (one w.heap.size) U (((U.setCell ⟨w.heap.size,k*3,none⟩ (.pointer (some ⟨v.b,0,none⟩))).setCell ⟨w.heap.size,k*3+1,none⟩ (.pointer (some ⟨v.k,0,none⟩))).setCell ⟨w.heap.size,k*3+2,none⟩ v.cv) :=
  (((Fr.refl (one w.heap.size) U).setCell (p:=⟨w.heap.size,k*3,none⟩) (fun _=>rfl) _).setCell (p:=⟨w.heap.size,k*3+1,none⟩) (fun _=>rfl) _).setCell (p:=⟨w.heap.size,k*3+2,none⟩) (fun _=>rfl) _
 have kD:jc base U (one w.heap.size):=by
  rintro j rfl _;exact⟨hb,fun c f e=>by rw[l6]at e;cases e⟩
 have e1:=ba l6 (k*3) (.pointer (some ⟨v.b,0,none⟩));have e2:=ba e1 (k*3+1) (.pointer (some ⟨v.k,0,none⟩));have e3:=ba e2 (k*3+2) v.cv;have old:∀i,i<k->∀j,(qv i).eT j->j<W.heap.size:=fun i hi j hj=>(h.part i hi).fy hj
 refine⟨(((h.fr.trans hU).eC (p:=⟨w.heap.size,k*3,none⟩) (ar _) _).eC (p:=⟨w.heap.size,k*3+1,none⟩) (ar _) _).eC (p:=⟨w.heap.size,k*3+2,none⟩) (ar _) _,?_,fun i hi=>?_,fun i hi j hj=>?_,fun i j hi hj yO n xm uA=>?_⟩
 ·rw[e3, <-s8 qv x.now hk v];unfold qF;simp
 ·by_cases ry:i=k
  ·subst ry;rw[gG];exact hp.fr nL kD (fun j hj e=>by have e':j=w.heap.size:=e;have:=hn j hj;omega)
  ·rw[fg qv v ry];have B':i<k:=ab;exact((h.part i B').dv hU).fr nL kD (fun j hj e=>by have e':j=w.heap.size:=e;have:=h.new i B' j hj;omega)
 ·by_cases ry:i=k
  ·subst ry;rw[gG]at hj;have:=hn j hj;omega
  ·rw[fg qv v ry]at hj;exact h.new i ab j hj
 ·by_cases ry:i=k
  ·subst ry;rw[gG]at xm;rw[fg qv v (Ne.symm yO)]at uA;have a1:=hn n xm;have a2:=old j ab n uA;omega
  ·rw[fg qv v ry]at xm;by_cases xC:j=k
   ·subst xC;rw[gG]at uA;have a1:=hn n uA;have a2:=old i ab n xm;omega
   ·rw[fg qv v xC]at uA;exact h.apart i j ab ab yO n xm uA
theorem nx.done{qv:Nat->bh}(h:nx base w x 4 qv W)(hb:base<=w.heap.size):aQ base W w.heap.size qv x :=
 ⟨hb,h.cR,h.part,h.apart⟩
def Ca(base:Nat)(w:World)(x:bu)(t:Value)(wr:World):Prop:=∃(k:Nat) (qv:Nat->bh),k<=4/\t=.int .i64 k/\nx base w x k qv wr
def lf(base:Nat)(w:World)(x:bu)(e:Ending)(w':World):Prop :=
 ∃B qv,e=.returned (.pointer (some ⟨B,0,none⟩))/\aQ base w' B qv x/\Fr aU w w'/\∀j,dJ B qv j->w.heap.size<=j
theorem iX(base:Nat)(w:World)(B:Nat)(pv:Nat->bh)(x:bu)(h:aQ base w B pv x)(hs:∀i,i<4->(x.part i).bC.length<68719476736/\(x.part i).waits.length<68719476736/\(x.part i).book.length<1000000/\(x.part i).cO.length<=1000000) :
  Calls prog 23 #[.pointer (some ⟨B,0,none⟩)] w (lf base w x):=by
 have hb:base<=w.heap.size:=au h.low (Nat.le_of_lt h.lt);obtain⟨x1,dT⟩:∃x1,x1=w.alloc (.cells #[.pointer none,.pointer none,.slice none 0 0,.pointer none,.pointer none,.slice none 0 0,.pointer none,.pointer none,.slice none 0 0,.pointer none,.pointer none,.slice none 0 0,.int .i64 x.now] 88):=⟨_,rfl⟩;have dt:Fr aU w x1:=by rw[dT];exact(Fr.refl _ _).alloc _
 have h0:nx base w x 0 pv x1:=⟨dt,by rw[dT];exact aB _ _,fun i hi=>absurd hi (bm i),fun i hi=>absurd hi (bm i),fun i j hi=>absurd hi (bm i)⟩;have H0:=O h0;have HW:=O h;have HB:=O hb;have HS:=O hs;have l6:=h.cR;have fh:=dt.keep h.cR (fun h=>h);unfold ec bh.cells at l6 fh;simp only[cN,bz]at l6 fh;have ET:w.cell? ⟨B,12,none⟩=some (.int .i64 x.now):=by simp only[World.cell?,l6];rfl
 have c0:x1.cell? ⟨B,0,none⟩=some (.pointer (some ⟨(pv 0).b,0,none⟩)):=by simp only[World.cell?,fh];rfl
 have c1:x1.cell? ⟨B,1,none⟩=some (.pointer (some ⟨(pv 0).k,0,none⟩)):=by simp only[World.cell?,fh];rfl
 have c2:x1.cell? ⟨B,2,none⟩=some ((pv 0).cv):=by simp only[World.cell?,fh];rfl
 have c3:x1.cell? ⟨B,3,none⟩=some (.pointer (some ⟨(pv 1).b,0,none⟩)):=by simp only[World.cell?,fh];rfl
 have c4:x1.cell? ⟨B,4,none⟩=some (.pointer (some ⟨(pv 1).k,0,none⟩)):=by simp only[World.cell?,fh];rfl
 have c5:x1.cell? ⟨B,5,none⟩=some ((pv 1).cv):=by simp only[World.cell?,fh];rfl
 have c6:x1.cell? ⟨B,6,none⟩=some (.pointer (some ⟨(pv 2).b,0,none⟩)):=by simp only[World.cell?,fh];rfl
 have c7:x1.cell? ⟨B,7,none⟩=some (.pointer (some ⟨(pv 2).k,0,none⟩)):=by simp only[World.cell?,fh];rfl
 have c8:x1.cell? ⟨B,8,none⟩=some ((pv 2).cv):=by simp only[World.cell?,fh];rfl
 have c9:x1.cell? ⟨B,9,none⟩=some (.pointer (some ⟨(pv 3).b,0,none⟩)):=by simp only[World.cell?,fh];rfl
 have zW:x1.cell? ⟨B,10,none⟩=some (.pointer (some ⟨(pv 3).k,0,none⟩)):=by simp only[World.cell?,fh];rfl
 have Dh:x1.cell? ⟨B,11,none⟩=some ((pv 3).cv):=by simp only[World.cell?,fh];rfl
 have Jh:=O (show∀k:Nat,k<4->∀u,Sem.run prog (Instr.index 86 (.agg #[.pointer (some ⟨(pv 0).b,0,none⟩),.pointer (some ⟨(pv 0).k,0,none⟩),(pv 0).cv,.pointer (some ⟨(pv 1).b,0,none⟩),.pointer (some ⟨(pv 1).k,0,none⟩),(pv 1).cv,.pointer (some ⟨(pv 2).b,0,none⟩),.pointer (some ⟨(pv 2).k,0,none⟩),(pv 2).cv,.pointer (some ⟨(pv 3).b,0,none⟩),.pointer (some ⟨(pv 3).k,0,none⟩),(pv 3).cv]) (.int .i64 k)) u=.ok (.agg #[.pointer (some ⟨(pv k).b,0,none⟩),.pointer (some ⟨(pv k).k,0,none⟩),(pv k).cv]) u from fun k hk u=>by
  rcases(show k=0\/k=1\/k=2\/k=3 from ab)with rfl|rfl|rfl|rfl
  ·kernel_rfl
  ·kernel_rfl
  ·kernel_rfl
  ·kernel_rfl)
 have uz:=O dT;rw[dT]at c0 c1 c2 c3 c4 c5 c6 c7 c8 c9 zW Dh;clear h0 h hb hs l6 fh dT dt;go_enter func23,ntmps23;go_wp2_with fail
 rw[<-uz.o];clear c0 c1 c2 c3 c4 c5 c6 c7 c8 c9 zW Dh ET;go_loopw[16] (Ca base w x) (fun i _=>4-(intOf i).toNat)
 case atStart=>exact⟨0,pv,az _,rfl,H0.o⟩
 case round =>
  obtain⟨k,qv,hk,rfl,yP⟩:=hrel;by_cases h_:k<4
  ·have B8:(k:Int)<4:=ab;have Cb:¬(k:Int)<0:=ab;have EU:(0:Int)<=(k:Int):=ab;have Ji:¬(4:Int)<=(k:Int):=ab;have BA:=Jh.o k h_;have rz:=O yP;have vY:=O h_;obtain⟨Jj,EW⟩:∃c,c=(pv k).cv:=⟨_,rfl⟩;obtain⟨ca,cc,xD⟩:=(HW.o.part k h_).cO.form;rw[ag]at xD;rw[xD]at BA
   obtain⟨y1,yh⟩:∃y1,y1=wr.alloc (.cells #[.pointer (some ⟨(pv k).b,0,none⟩),.pointer (some ⟨(pv k).k,0,none⟩),.slice ca (x.part k).cO.length cc] 85):=⟨_,rfl⟩;have EX:Fr aU wr y1:=by rw[yh];exact(Fr.refl _ _).alloc _
   have GA:y1.heap[wr.heap.size]?=some (.cells #[.pointer (some ⟨(pv k).b,0,none⟩),.pointer (some ⟨(pv k).k,0,none⟩),.slice ca (x.part k).cO.length cc] 85 (0,0)):=by rw[yh];exact aB _ _
   have EY:=O (HW.o.dv (yP.fr.trans EX));have yQ:=O EX;have GB:=O GA;have xE:=O yh;have Jk:=O xD;have HC:=O (show∀U,Fr aU y1 U->(U.cell? ⟨wr.heap.size,0,none⟩=some (.pointer (some ⟨(pv k).b,0,none⟩))/\U.cell? ⟨wr.heap.size,1,none⟩=some (.pointer (some ⟨(pv k).k,0,none⟩))/\U.cell? ⟨wr.heap.size,2,none⟩=some (.slice ca (x.part k).cO.length cc))from fun U hU=>by
    have j:=hU.keep GB.o (fun h=>h);refine⟨?_,?_,?_⟩<;>simp[World.cell?,j])
   have Di:=O (show∀U,Fr aU y1 U->Calls prog 32 #[.pointer (some ⟨(pv k).b,0,none⟩)] U (ng base U (x.part k).bC (x.part k).waits)from fun U hU=>sN base U (pv k).b (pv k).gv (pv k).wv (x.part k).bC (x.part k).waits ((EY.o.dv hU).part k vY.o).lZ (HS.o k vY.o).1 (HS.o k vY.o).2.1)
   have Jl:=O (show∀U,Fr aU y1 U->Calls prog 33 #[.pointer (some ⟨(pv k).k,0,none⟩)] U fun e w'=>∃b' v',e=.returned (.pointer (some ⟨b',0,none⟩))/\cU U.heap.size w' b' v' (x.part k).book/\Fr aU U w' from fun U hU=>l5 base U (pv k).k (pv k).kv (x.part k).book ((EY.o.dv hU).part k vY.o).book (HS.o k vY.o).2.2.1)
   have Jm:=O (show∀U,Fr aU y1 U->Calls prog 34 #[.slice ca (x.part k).cO.length cc] U fun e w'=>∃v',e=.returned v'/\OwnRows U.heap.size 109 4 w' v' ((x.part k).cO.map xq)/\Fr aU U w' from fun U hU=>by
    have hh:=((EY.o.dv hU).part k vY.o).cO.at;rw[Jk.o]at hh;exact vX _ _ U hh (by rw[ag];have:=(HS.o k vY.o).2.2.2;omega))
   clear yP EX GA yh xD EW Jj h_;go_wp2_with fail
   rw[<-xE.o];refine wp_region_held_drew (S:=(fun U=>U.cell? ⟨wr.heap.size,0,none⟩=some (.pointer (some ⟨(pv k).b,0,none⟩))/\U.cell? ⟨wr.heap.size,1,none⟩=some (.pointer (some ⟨(pv k).k,0,none⟩))/\U.cell? ⟨wr.heap.size,2,none⟩=some (.slice ca (x.part k).cO.length cc))) af (HC.o _ (Fr.drew (Fr.refl _ _))) ?_;intro rA;refine aA 0 20 rfl ?_
   try simp only[Act.put,sA,sB,sC]
   refine aA 1 21 rfl ?_
   try simp only[Act.put,sA,sB,sC]
   refine aA 2 22 rfl ?_
   try simp only[Act.put,sA,sB,sC]
   refine aA 3 23 rfl ?_
   try simp only[Act.put,sA,sB,sC]
   refine aA 5 25 rfl ?_
   try simp only[Act.put,sA,sB,sC]
   refine aA 6 26 rfl ?_
   try simp only[Act.put,sA,sB,sC]
   refine aA 8 28 rfl ?_
   try simp only[Act.put,sA,sB,sC]
   refine aA 9 29 rfl ?_
   try simp only[Act.put,sA,sB,sC]
   refine aA 12 32 rfl ?_
   try simp only[Act.put,sA,sB,sC]
   refine aA 13 33 rfl ?_
   try simp only[Act.put,sA,sB,sC]
   refine dr 4 rfl fun K hK=>?_;go_simp;refine(Di.o _ (Fr.drew (Fr.refl aU y1))).mono ?_;rintro e u1⟨kb,kg,kw,rfl,hb,hf,hn⟩;have nO:=O ((Fr.drew (Fr.refl aU y1)).trans hf);have xF:=O hf;have Jn:=O hb;have Jo:=O hn;clear hb hf hn;refine hK.out _ _ (HC.o _ nO.o) ?_;intro rB;clear hK rA K
   try simp only[Act.put,sA,sB,sC]
   refine dr 7 rfl fun K hK=>?_;go_simp;refine(Jl.o _ (nO.o)).mono ?_;rintro e u2⟨kk,kv,rfl,hb,hf⟩;have gL:=O ((nO.o).trans hf);have yR:=O hf;have GC:=O hb;clear hb hf;refine hK.out _ _ (HC.o _ gL.o) ?_;intro uB;clear hK rB K
   try simp only[Act.put,sA,sB,sC]
   refine dr 10 rfl fun K hK=>?_;go_simp;refine(Jm.o _ (gL.o)).mono ?_;rintro e u3⟨kc,rfl,hb,hf⟩;have vJ:=O ((gL.o).trans hf);have GD:=O hf;have GF:=O hb;obtain⟨na,nc,GG⟩:=hb.form;rw[ag]at GG;subst GG;clear hb hf;refine hK.out _ _ (HC.o _ vJ.o) ?_;intro vZ;clear hK uB K
   try simp only[Act.put,sA,sB,sC]
   refine aA 11 31 rfl ?_
   try simp only[Act.put,sA,sB,sC]
   refine aA 14 34 rfl ?_
   try simp only[Act.put,sA,sB,sC]
   refine dr 15 rfl fun K hK=>?_;have aF:=rz.o.step HB.o vY.o (yQ.o.trans vJ.o) (v:=⟨kb,kg,kw,kk,kv,.slice na (x.part k).cO.length nc⟩) ⟨Jn.o.dv (yR.o.trans GD.o),(cU.mono GC.o (au (au HB.o rz.o.fr.size) (yQ.o.trans (nO.o)).size)).dv GD.o,OwnRows.fr (OwnRows.mono GF.o (au (au HB.o rz.o.fr.size) (yQ.o.trans (gL.o)).size)) (Fr.refl _ _) (fun _ _ h=>h)⟩ (by
    rintro j(hj|hj|hj)
    ·exact au (yQ.o.trans (Fr.drew (Fr.refl _ _))).size (Jo.o j hj)
    ·exact au (yQ.o.trans (nO.o)).size (GC.o.eu hj)
    ·exact au (yQ.o.trans (gL.o)).size (GF.o.block _ hj))
   have cg:=O aF;have Cc:=vJ.o.keep (yQ.o.keep rz.o.cR (fun h=>h)) (fun h=>h);obtain⟨q0,q1,q2⟩:=yN qv x.now vY.o;have c0:u3.cell? ⟨w.heap.size,k*3,none⟩=some (.pointer none):=by simp[World.cell?,Cc,q0]
   have c1:u3.cell? ⟨w.heap.size,k*3+1,none⟩=some (.pointer none):=by simp[World.cell?,Cc,q1]
   have c2:u3.cell? ⟨w.heap.size,k*3+2,none⟩=some (.slice none 0 0):=by simp[World.cell?,Cc,q2]
   have f0:∀j,u3.frozen? ⟨w.heap.size,j,none⟩=false:=fun j=>by simp[World.frozen?,Cc]
   have f1:=f0 (k*3);have f2:=f0 (k*3+1);have f3:=f0 (k*3+2);obtain⟨W9,Dj⟩:∃W9,W9=((u3.setCell ⟨w.heap.size,k*3,none⟩ (.pointer (some ⟨kb,0,none⟩))).setCell ⟨w.heap.size,k*3+1,none⟩ (.pointer (some ⟨kk,0,none⟩))).setCell ⟨w.heap.size,k*3+2,none⟩ (.slice na (x.part k).cO.length nc):=⟨_,rfl⟩
   have Jp:=O (show nx base w x (k+1) (iV qv k ⟨kb,kg,kw,kk,kv,.slice na (x.part k).cO.length nc⟩) W9 by rw[Dj];exact cg.o);have nL:Fr (one w.heap.size) u3 W9:=by rw[Dj];exact(((Fr.refl (one w.heap.size) u3).setCell (p:=⟨w.heap.size,k*3,none⟩) (fun _=>rfl) _).setCell (p:=⟨w.heap.size,k*3+1,none⟩) (fun _=>rfl) _).setCell (p:=⟨w.heap.size,k*3+2,none⟩) (fun _=>rfl) _
   have yS:=nL.keep (vJ.o.keep GB.o (fun h=>h)) (fun e=>by have e':wr.heap.size=w.heap.size:=e;have:=aJ rz.o.cR;omega);have Jq:=O yS;clear nL yS;clear aF q0 q1 q2 f0 Cc;go_simp;rw[<-Dj];clear Dj;have yS:=Jq.o;refine hK.out _ _ ⟨by simp[World.cell?,yS],by simp[World.cell?,yS],by simp[World.cell?,yS]⟩ ?_;intro js;clear hK vZ K js yS
   try simp only[Act.put,sA,sB,sC]
   refine wpAnyH_done af ?_ _;go_wp2_with fail
   go_roundw
   case rel=>exact⟨k+1,_,ab,bn,Jp.o⟩
   case measure=>simp[intOf];omega
  ·have xG:k=4:=ab;subst xG;have HD:=O (yP.done HB.o);have jx:=O yP.fr;have Jr:=O (show∀j,dJ w.heap.size qv j->w.heap.size<=j from fun j hj=>by
    rcases hj with rfl|⟨i,hi,hj⟩
    ·exact ar _
    ·exact Nat.le_of_lt (yP.new i hi j hj))
   clear yP H0;go_wp2;go_ret;exact⟨_,_,rfl,HD.o,jx.o,Jr.o⟩
theorem qI(o:df):(bd o).1=0\/(bd o).1=1\/(bd o).1=4\/(bd o).1=7\/(bd o).1=8\/(bd o).1=10:=by
 unfold bd;split
 ·split
  ·simp
  ·split
   ·simp
   ·split
    ·simp
    ·split
     ·simp
     ·split
      ·simp
      ·split<;>simp
 ·simp
theorem fG.take{f:bu}(h:fG x)(g:fG f)(part:Int)(c:Nat):fG (dH x f part c):=by
 unfold dH;split
 ·refine⟨⟨fun k=>?_,?_⟩,fun k=>?_,fun k=>?_⟩
  ·show fB (if k=part.toNat then fP c (x.part k) (f.part k)else x.part k);have a:=h.ok.part k;have b:=g.ok.part k;split
   ·unfold fP;cases c.testBit 0<;>cases c.testBit 1<;>cases c.testBit 2<;>exact⟨by first|exact a.uniq|exact b.uniq,by first|exact a.nat|exact b.nat,by first|exact a.my.1|exact b.my.1,by first|exact a.my.2.1|exact b.my.2.1,by first|exact a.my.2.2.1|exact b.my.2.2.1,by first|exact a.my.2.2.2|exact b.my.2.2.2⟩
   ·exact a
  ·show 0<=(if c.testBit 3=true then f.now else x.now)/\(if c.testBit 3=true then f.now else x.now)<=1099511627776;split
   ·exact g.ok.now
   ·exact h.ok.now
  ·show fC (if k=part.toNat then fP c (x.part k) (f.part k)else x.part k);have a:=h.sm k;have b:=g.sm k;split
   ·unfold fP;cases c.testBit 0<;>exact⟨by first|exact a.bC|exact b.bC,by first|exact a.waits|exact b.waits⟩
   ·exact a
  ·show dI (if k=part.toNat then fP c (x.part k) (f.part k)else x.part k);have a:=h.path k;have b:=g.path k;split
   ·unfold fP;cases c.testBit 0
    ·exact fun y hy=>a y hy
    ·exact fun y hy=>b y hy
   ·exact a
 ·exact h
structure kh where
 kind:Int
 tab:Int
 o:dK
 hs:List dP
def kh.cells(m:kh):List Value:=.int .i64 m.kind :: .int .i64 m.tab :: m.o.cells
def pg(n i:Nat):bh:=⟨n+1+2*i,.slice none 0 0,.slice none 0 0,n+2+2*i,.slice none 0 0,.slice none 0 0⟩
def wF(n k i:Nat):List Value:=if i<k then(pg n i).cells else [.pointer none,.pointer none,.slice none 0 0]
def q_(n k:Nat):List Value:=wF n k 0++(wF n k 1++(wF n k 2++(wF n k 3++[.int .i64 0])))
structure kn (w:World) (k:Nat) (W:World):Prop where
 fr:Fr aU w W
 cR:W.heap[w.heap.size]?=some (.cells (q_ w.heap.size k).toArray 88 (0,0))
 lZ:∀i,i<k->W.heap[w.heap.size+1+2*i]?=some (.cells #[.slice none 0 0,.slice none 0 0] 101 (0,0))
 book:∀i,i<k->W.heap[w.heap.size+2+2*i]?=some (.cells #[.slice none 0 0] 104 (0,0))
 size:W.heap.size=w.heap.size+1+2*k
theorem ra(n k:Nat)(hk:k<4):(((q_ n k).set (k*3) (.pointer (some ⟨n+1+2*k,0,none⟩))).set (k*3+1) (.pointer (some ⟨n+2+2*k,0,none⟩))).set (k*3+2) (.slice none 0 0)=q_ n (k+1):=by
 match k,hk with
 |0,_=>rfl
 |1,_=>rfl
 |2,_=>rfl
 |3,_=>rfl
theorem kn.step(h:kn w k W)(hk:k<4):kn w (k+1) (((((W.alloc (.cells #[.slice none 0 0,.slice none 0 0] 101)).alloc (.cells #[.slice none 0 0] 104)).setCell ⟨w.heap.size,k*3,none⟩ (.pointer (some ⟨W.heap.size,0,none⟩))).setCell ⟨w.heap.size,k*3+1,none⟩ (.pointer (some ⟨W.heap.size+1,0,none⟩))).setCell ⟨w.heap.size,k*3+2,none⟩ (.slice none 0 0)):=by
 obtain⟨V,hV⟩:∃V,V=(W.alloc (.cells #[.slice none 0 0,.slice none 0 0] 101)).alloc (.cells #[.slice none 0 0] 104):=⟨_,rfl⟩;have hf:Fr aU W V:=by rw[hV];exact((Fr.refl aU W).alloc _).alloc _
 have J':V.heap[W.heap.size]?=some (.cells #[.slice none 0 0,.slice none 0 0] 101 (0,0)):=by rw[hV];exact((Fr.refl aU _).alloc _).keep (aB _ _) (fun h=>h)
 have xf:V.heap[W.heap.size+1]?=some (.cells #[.slice none 0 0] 104 (0,0)):=by
  have h:=aB (W.alloc (.cells #[.slice none 0 0,.slice none 0 0] 101)) (.cells #[.slice none 0 0] 104);rw[World.size_alloc]at h;rw[hV];exact h
 have La:V.heap.size=W.heap.size+2:=by rw[hV];simp
 rw[<-hV];have l6:=hf.keep h.cR (fun h=>h);have nL:Fr (one w.heap.size) V (((V.setCell ⟨w.heap.size,k*3,none⟩ (.pointer (some ⟨W.heap.size,0,none⟩))).setCell ⟨w.heap.size,k*3+1,none⟩ (.pointer (some ⟨W.heap.size+1,0,none⟩))).setCell ⟨w.heap.size,k*3+2,none⟩ (.slice none 0 0)) :=
  (((Fr.refl (one w.heap.size) V).setCell (p:=⟨w.heap.size,k*3,none⟩) (fun _=>rfl) _).setCell (p:=⟨w.heap.size,k*3+1,none⟩) (fun _=>rfl) _).setCell (p:=⟨w.heap.size,k*3+2,none⟩) (fun _=>rfl) _
 have e1:=ba l6 (k*3) (.pointer (some ⟨W.heap.size,0,none⟩));have e2:=ba e1 (k*3+1) (.pointer (some ⟨W.heap.size+1,0,none⟩));have e3:=ba e2 (k*3+2) (.slice none 0 0);have rv:=h.size;have xO:=ra w.heap.size k hk;rw[show w.heap.size+1+2*k=W.heap.size from ab,show w.heap.size+2+2*k=W.heap.size+1 from ab]at xO;refine⟨?_,?_,fun i hi=>?_,fun i hi=>?_,?_⟩
 ·exact(((h.fr.trans hf).eC (p:=⟨w.heap.size,k*3,none⟩) (ar _) _).eC (p:=⟨w.heap.size,k*3+1,none⟩) (ar _) _).eC (p:=⟨w.heap.size,k*3+2,none⟩) (ar _) _
 ·rw[e3, <-xO];simp
 ·refine nL.keep ?_ (fun e=>by have e':w.heap.size+1+2*i=w.heap.size:=e;omega);by_cases ry:i<k
  ·exact hf.keep (h.lZ i ry) (fun h=>h)
  ·rw[show w.heap.size+1+2*i=W.heap.size from ab];exact J'
 ·refine nL.keep ?_ (fun e=>by have e':w.heap.size+2+2*i=w.heap.size:=e;omega);by_cases ry:i<k
  ·exact hf.keep (h.book i ry) (fun h=>h)
  ·rw[show w.heap.size+2+2*i=W.heap.size+1 from ab];exact xf
 ·have e:(((V.setCell ⟨w.heap.size,k*3,none⟩ (.pointer (some ⟨W.heap.size,0,none⟩))).setCell ⟨w.heap.size,k*3+1,none⟩ (.pointer (some ⟨W.heap.size+1,0,none⟩))).setCell ⟨w.heap.size,k*3+2,none⟩ (.slice none 0 0)).heap.size=V.heap.size:=by simp[World.setCell]
  rw[e];omega
theorem kn.done(h:kn w 4 W)(hb:base<=w.heap.size):aQ base W w.heap.size (pg w.heap.size) lW:=by
 refine⟨hb,h.cR,fun i hi=>⟨⟨?_,h.lZ i hi,⟨[],aV _ _ _ _,.nil⟩,⟨[],aV _ _ _ _,.nil⟩⟩,⟨?_,h.book i hi,aV _ _ _ _⟩,aV _ _ _ _⟩,fun i j hi hj yO k hk Cf=>?_⟩
 ·show base<=w.heap.size+1+2*i;omega
 ·show base<=w.heap.size+2+2*i;omega
 ·have key:∀a,(pg w.heap.size a).eT k->k=w.heap.size+1+2*a\/k=w.heap.size+2+2*a:=by
   rintro a(q|q|q)
   ·rcases q with q|q|q
    ·exact Or.inl q
    ·simp[pg,own,Value.ownBlock]at q
    ·simp[pg,own,Value.ownBlock]at q
   ·rcases q with q|q
    ·exact Or.inr q
    ·simp[pg,own,Value.ownBlock]at q
   ·simp[pg,own,Value.ownBlock]at q
  have h1:=key i hk;have h2:=key j Cf;omega
def CB(w:World)(t:Value)(wr:World):Prop:=∃k:Nat,k<=4/\t=.int .i64 k/\kn w k wr
theorem wG(w:World):Calls prog 21 #[] w fun e w'=>∃B pv,e=.returned (.pointer (some ⟨B,0,none⟩))/\(∀base,base<=w.heap.size->aQ base w' B pv lW)/\Fr aU w w':=by
 have h0:kn w 0 (w.alloc (.cells #[.pointer none,.pointer none,.slice none 0 0,.pointer none,.pointer none,.slice none 0 0,.pointer none,.pointer none,.slice none 0 0,.pointer none,.pointer none,.slice none 0 0,.int .i64 0] 88)) :=
  ⟨(Fr.refl aU w).alloc _,aB _ _,fun i hi=>absurd hi (bm i),fun i hi=>absurd hi (bm i),aK⟩
 have H0:=O h0;clear h0;go_enter func21,ntmps21;go_wp2_with fail
 go_loopw[5] (CB w) (fun i _=>4-(intOf i).toNat)
 case atStart=>exact⟨0,az _,rfl,H0.o⟩
 case round =>
  obtain⟨k,hk,rfl,hn⟩:=hrel;by_cases h_:k<4
  ·have B8:(k:Int)<4:=ab;have HN:=O (hn.step h_);have hb:=hn.cR;have qt:w.heap.size<wr.heap.size:=aJ hb;have Cb:¬(k:Int)<0:=ab;have EU:(0:Int)<=(k:Int):=ab;have nJ:=(((Fr.refl aU wr).alloc (.cells #[.slice none 0 0,.slice none 0 0] 101)).alloc (.cells #[.slice none 0 0] 104)).keep hb (fun h=>h)
   obtain⟨q0,q1,q2⟩:(q_ w.heap.size k)[k*3]?=some (.pointer none)/\(q_ w.heap.size k)[k*3+1]?=some (.pointer none)/\(q_ w.heap.size k)[k*3+2]?=some (.slice none 0 0):=by
    match k,h_ with
    |0,_=>exact⟨rfl,rfl,rfl⟩
    |1,_=>exact⟨rfl,rfl,rfl⟩
    |2,_=>exact⟨rfl,rfl,rfl⟩
    |3,_=>exact⟨rfl,rfl,rfl⟩
   have c0:((wr.alloc (.cells #[.slice none 0 0,.slice none 0 0] 101)).alloc (.cells #[.slice none 0 0] 104)).cell? ⟨w.heap.size,k*3,none⟩=some (.pointer none):=by simp[World.cell?,nJ,q0]
   have c1:((wr.alloc (.cells #[.slice none 0 0,.slice none 0 0] 101)).alloc (.cells #[.slice none 0 0] 104)).cell? ⟨w.heap.size,k*3+1,none⟩=some (.pointer none):=by simp[World.cell?,nJ,q1]
   have c2:((wr.alloc (.cells #[.slice none 0 0,.slice none 0 0] 101)).alloc (.cells #[.slice none 0 0] 104)).cell? ⟨w.heap.size,k*3+2,none⟩=some (.slice none 0 0):=by simp[World.cell?,nJ,q2]
   have f0:∀j,((wr.alloc (.cells #[.slice none 0 0,.slice none 0 0] 101)).alloc (.cells #[.slice none 0 0] 104)).frozen? ⟨w.heap.size,j,none⟩=false:=fun j=>by simp[World.frozen?,nJ]
   have f1:=f0 (k*3);have f2:=f0 (k*3+1);have f3:=f0 (k*3+2);have hx:=HN;clear hn H0 nJ q0 q1 q2 f0 hb;go_wp2_with (first|((with_reducible refine dm 85 ?_);have zC:=hx;clear hx zC;go_must(generalize (wr.alloc (.cells #[.slice none 0 0,.slice none 0 0] 101)).alloc (.cells #[.slice none 0 0] 104)=W5 at *))|fail)
   go_roundw
   case rel=>exact⟨k+1,ab,bn,HN.o⟩
   case measure=>simp[intOf];omega
  ·have xG:k=4:=ab;subst xG;have HD:=O (fun base hb=>hn.done (base:=base) hb);have jx:=O hn.fr;clear hn H0;go_wp2;go_ret;exact⟨_,_,rfl,HD.o,jx.o⟩
theorem eE(t:cX)(n:Nat)(x:gM):(t.put n x).tab n=x:=by unfold cX.put;simp
def yI(b n:Nat)(r:aw)(U:World)(e:Ending)(w':World):Prop :=
 e=.returned (.int .i64 (cY n r).1)/\w'.heap[b]?=some (.cells #[.string ⟨(cY n r).2.toArray⟩] 61 (0,0))/\Fr (one b) U w'
theorem sW(s:ai):∀(n i:Nat) (r:aw),s.size-i=n->(ByteArray.toList.loop s i r).length=r.length+n
 |0,i,r,h=>by
  unfold ByteArray.toList.loop;rw[aj ab];simp
 |n+1,i,r,h=>by
  unfold ByteArray.toList.loop;rw[aq ab,sW s n (i+1) _ ab];simp;omega
theorem sX{s:ai}(h:0<s.size):s.toList.isEmpty=false:=by
 have:=sW s s.size 0 [] ab;have e:s.toList.length=[].length+s.size:=this;cases hl:s.toList with
 |nil=>rw[hl]at e;simp at e;omega
 |cons a l=>rfl
theorem dQ(hn:0<n)(r:aw):(cY n r).1<n:=by
 cases r with
 |nil=>exact hn
 |cons c r=>exact Nat.mod_lt _ hn
theorem kZ(x:UInt8)(r:aw):(⟨(x :: r).toArray⟩:ai).extract 1 (r.length+1)=⟨r.toArray⟩:=by
 apply ByteArray.ext;simp[ByteArray.data_extract]
theorem cG(U:World)(b:Nat)(r:aw)(n:Nat)(hn:0<n)(uA:n<1000)(hb:U.heap[b]?=some (.cells #[.string ⟨r.toArray⟩] 61 (0,0))) :
  Calls prog 26 #[.pointer (some ⟨b,0,none⟩),.int .i64 n] U (yI b n r U):=by
 cases r with
 |nil =>
  have c:U.cell? ⟨b,0,none⟩=some (.string ⟨#[]⟩):=by simp[World.cell?,hb]
  have HB:=O hb;clear hb;go_enter func26,ntmps26;go_wp2;go_ret;exact⟨rfl,HB.o,Fr.refl _ _⟩
 |cons x r =>
  obtain⟨s,hs⟩:∃s:ai,s=⟨(x :: r).toArray⟩:=⟨_,rfl⟩;rw[<-hs]at hb;have c:U.cell? ⟨b,0,none⟩=some (.string s):=by simp[World.cell?,hb]
  have f:U.frozen? ⟨b,0,none⟩=false:=by simp[World.frozen?,hb]
  have HB:=O hb;have rv:s.size=r.length+1:=by rw[hs];rfl
  have h0:0<s.size:=ab;have C7:s.toList.isEmpty=false:=sX h0;have Je:=O (show s.extract 1 (r.length+1)=⟨r.toArray⟩by
   rw[hs];exact kZ x r)
  have HV:=O (show∀h:0<s.size,(wrap64 ((s[0]'h).toNat:Int)).tmod (n:Int)=((x.toNat%n:Nat):Int)by
   intro h;have e:s[0]'h=x:=by subst hs;rfl
   rw[e];have:=x.toNat_lt;rw[IntWalk.wrap64_in _ ab];rfl)
  clear hb hs;go_enter func26,ntmps26;go_wp2;go_ret;refine⟨?_,?_,(Fr.refl (one b) U).setCell (p:=⟨b,0,none⟩) (fun _=>rfl) _⟩
  ·rw[HV.o];rfl
  ·rw[Je.o];exact ba HB.o 0 _
structure oC (w:World):Prop where
 ER:vU w
 pw:pK w
def l0(base:Nat)(w:World)(B:Nat)(pv:Nat->bh)(r:bu×dG)(e:Ending)(w':World):Prop :=
 e=.returned r.2.val/\aL base w B pv r.1 w'
section
variable {base : Nat} {a w w' : World} {B : Nat} {pv : Nat → bh} {x : bu}
theorem aL.after(hf:Fr aU a w)(h:aL base w B pv x w'):aL base a B pv x w':=by
 obtain⟨s4,h1,h2,h3⟩:=h;refine⟨s4,h1,Fr.step (S:=dJ B pv) (hf.mono (fun _ _ h=>absurd h (fun h=>h))) h2 (fun _ _ h=>h),fun k hk=>?_⟩;rcases h3 k hk with h|h
 ·exact Or.inl h
 ·exact Or.inr (au hf.size h)
theorem aL.then(h:aL base a B pv x w)(hf:Fr aU w w'):aL base a B pv x w':=by
 obtain⟨s4,h1,h2,h3⟩:=h;exact⟨s4,h1.dv hf,h2.step (T:=aU) hf (fun _ _ h=>absurd h (fun h=>h)),h3⟩
theorem aL.row(h:aL base w B pv x w'){n:Nat}{old:Array Value}{t:TypeId}(vV:base<=w.heap.size)(hB:B<w.heap.size)(hn:w.heap.size<=n)(hr:w'.heap[n]?=some (.cells old t (0,0)))
  (ht:bP t)(hs:t≠9)(new:Array Value):aL base w B pv x (w'.setRow n new):=by
 obtain⟨s4,h1,h2,h3⟩:=h;have ji:Fr (one n) w' (w'.setRow n new):=(Fr.refl (one n) w').setRow (fun _=>rfl) _;have kD:jc base w' (one n):=by
  rintro k rfl _;exact⟨ab,fun c f e=>by rw[hr]at e;cases e;exact hs rfl⟩
 refine⟨s4,h1.fr ji kD (fun i hi e=>?_),h2.step ji (fun k hk e=>?_),h3⟩
 ·have e':i=n:=e;subst e';rcases hi with rfl|⟨j,hj,hi⟩
  ·omega
  ·exact(h1.part j hj).pV hr ht hi
 ·have e':k=n:=e;omega
end
theorem aQ.j'(h:aQ base w B pv x){c:Array Value}(hn:w.heap[n]?=some (.cells c t (0,0)))(ht:bP t)(hw:t≠88):¬dJ B pv n:=fun hk=>by
 rcases hk with rfl|⟨i,hi,hk⟩
 ·rw[h.cR]at hn;cases hn;exact hw rfl
 ·exact(h.part i hi).pV hn ht hk
structure eU where
 o:dK
 hs:List dP
 sp:Value
def eL(r:dG):List Value:=[.int .i64 r.what,.string r.head,.int .i64 r.cert]
def dh(f:Nat->Nat->Int):List Value:=[.int .i64 (f 0 0),.int .i64 (f 0 1),.int .i64 (f 0 2),.int .i64 (f 0 3),.int .i64 (f 1 0),.int .i64 (f 1 1),.int .i64 (f 1 2),.int .i64 (f 1 3),.int .i64 (f 2 0),.int .i64 (f 2 1),.int .i64 (f 2 2),.int .i64 (f 2 3),.int .i64 (f 3 0),.int .i64 (f 3 1),.int .i64 (f 3 2),.int .i64 (f 3 3)]
def dS(x:gM)(v:eU):List Value:=.int .i64 x.does :: (v.o.cells++(.int .i64 x.fails :: .int .i64 x.dZ :: v.sp :: (dh x.num++eL x.cP)))
theorem eM(x:gM)(v:eU):(dS x v).length=45:=rfl
theorem dX(f:Nat->Nat->Int):(dh f).length=16:=rfl
theorem pW(f:Nat->Nat->Int)(hp:p<4)(hi:i<4):(dh f)[p*4+i]?=some (.int .i64 (f p i)):=by
 rcases(show p=0\/p=1\/p=2\/p=3 from ab)with rfl|rfl|rfl|rfl<;>rcases(show i=0\/i=1\/i=2\/i=3 from ab)with rfl|rfl|rfl|rfl<;>rfl
structure bL (U:World) (T B:Nat) (g:Nat->eU) (sv:Value) (t:cX):Prop where
 cR:∃cs,U.heap[T]?=some (.cells cs 72 (0,0))/\cs.size=289
 main:U.cell? ⟨T,0,none⟩=some (.pointer (some ⟨B,0,none⟩))
 num:U.rangeAt T 1 (dh t.num)
 tab:∀n,n<6->U.rangeAt T (17+n*45) (dS (t.tab n) (g n))
 steps:U.cell? ⟨T,287,none⟩=some (.int .i64 t.steps)
 st:U.cell? ⟨T,288,none⟩=some sv
section
variable {U U' : World} {T B : Nat} {g : Nat → eU} {sv : Value} {t : cX}
theorem ed{p:Addr}(h:w.cell? p=some u)(hf:Fr S w U)(hn:¬S p.block):U.cell? p=some u:=by
 unfold World.cell? at h ⊢;cases hb:w.heap[p.block]? with
 |none=>rw[hb]at h;cases h
 |some o=>rw[hb]at h;rw[hf.keep hb hn];exact h
theorem eH(h:w.rangeAt b o cs)(hf:Fr S w U)(hn:¬S b):U.rangeAt b o cs:=fun j v hv=>ed (h j v hv) hf hn
theorem bL.fr(h:bL U T B g sv t)(hf:Fr S U U')(hn:¬S T):bL U' T B g sv t:=by
 obtain⟨cs,hb,hs⟩:=h.cR;exact⟨⟨cs,hf.keep hb hn,hs⟩,ed h.main hf hn,eH h.num hf hn,fun n hl=>eH (h.tab n hl) hf hn,ed h.steps hf hn,ed h.st hf hn⟩
theorem bL.lt(h:bL U T B g sv t):T<U.heap.size:=by obtain⟨cs,hb,_⟩:=h.cR;exact aJ hb
theorem bL.there(h:bL U T B g sv t)(hn:o+n<=289):U.there T o n:=by
 obtain⟨cs,hb,hs⟩:=h.cR;intro j hj;have hl:o+j<cs.size:=ab;exact⟨by simp[World.cell?,hb,hl],by simp[World.frozen?,hb]⟩
theorem bL.free(h:bL U T B g sv t)(k:Nat):U.frozen? ⟨T,k,none⟩=false:=by
 obtain⟨cs,hb,_⟩:=h.cR;simp[World.frozen?,hb]
theorem dA(T:Nat)(ty:TypeId)(n:Nat):∀(vs:List Value) (o:Nat) (U:World),(∃cs,U.heap[T]?=some (.cells cs ty (0,0))/\cs.size=n)->∃cs,(U.setCells T o vs).heap[T]?=some (.cells cs ty (0,0))/\cs.size=n
 |[],_,_,h=>h
 |v :: r,o,U,⟨cs,hb,hs⟩=>by
  rw[World.setCells];exact dA T ty n r (o+1) _ ⟨_,ba hb o v,by simpa using hs⟩
theorem dN{a:World}(T:Nat):∀(vs:List Value) (o:Nat) (U:World),Fr (one T) a U->Fr (one T) a (U.setCells T o vs)
 |[],_,_,h=>h
 |v :: r,o,U,h=>by
  rw[World.setCells];exact dN T r (o+1) _ (h.setCell (p:=⟨T,o,none⟩) (fun _=>rfl) v)
theorem bl{vs:List Value}(h:U.cell? ⟨T,k,none⟩=some u)(Js:k<o\/o+vs.length<=k):(U.setCells T o vs).cell? ⟨T,k,none⟩=some u:=by
 rw[World.cell?_setCells_out T vs o U ⟨T,k,none⟩ (fun _ _=>Js)];exact h
theorem bL.s9(h:bL U T B g sv t)(hn:n<6)(x:gM)(v:eU):bL (U.setCells T (17+n*45) (dS x v)) T B (fun i=>if i=n then v else g i) sv (t.put n x)/\Fr (one T) U (U.setCells T (17+n*45) (dS x v)):=by
 have hl:=eM x v;refine⟨⟨dA T _ _ _ _ _ h.cR,bl h.main (Or.inl ab),World.rangeAt_setCells_apart h.num _ _ _ (Or.inr (Or.inl (by rw[dX];omega))),fun m hm=>?_,bl h.steps (Or.inr ab),bl h.st (Or.inr ab)⟩,dN T _ _ _ (Fr.refl _ _)⟩;by_cases e:m=n
 ·subst e;show World.rangeAt _ T (17+m*45) (dS (if m=m then x else t.tab m) (if m=m then v else g m));rw[aq rfl,aq rfl];exact World.rangeAt_setCells_same _ _ _ _ (h.there (by rw[hl];omega))
 ·show World.rangeAt _ T (17+m*45) (dS (if m=n then x else t.tab m) (if m=n then v else g m));rw[aj e,aj e];exact World.rangeAt_setCells_apart (h.tab m hm) _ _ _ (by
   right;rw[hl,eM];rcases Nat.lt_or_ge m n with q|q
   ·left;omega
   ·right;omega)
theorem lg(h:U.rangeAt T o cs)(hj:j<cs.length):(U.setCell ⟨T,o+j,none⟩ v).rangeAt T o (cs.set j v):=by
 intro k u hk;have hc:=h j _ (List.getElem?_eq_getElem hj);by_cases e:k=j
 ·subst e;rw[List.getElem?_set_self hj]at hk;cases hk;exact World.cell?_setCell_same' U ⟨T,o+k,none⟩ _ (by rw[hc];rfl)
 ·rw[List.getElem?_set_ne (Ne.symm e)]at hk;rw[World.cell?_setCell_other U ⟨T,o+j,none⟩ ⟨T,o+k,none⟩ v (fun q=>e (by injection q with q1 q2;omega))];exact h k u hk
theorem bL.jC(h:bL U T B g sv t)(hn:n<6)(hj:j<45)(v:Value){x:gM}{w:eU}(hx:(dS (t.tab n) (g n)).set j v=dS x w):bL (U.setCell ⟨T,17+n*45+j,none⟩ v) T B (fun i=>if i=n then w else g i) sv (t.put n x)/\Fr (one T) U (U.setCell ⟨T,17+n*45+j,none⟩ v):=by
 have hl:([v]:List Value).length=1:=rfl;refine⟨⟨dA T _ _ [v] _ _ h.cR,bl (vs:=[v]) h.main (Or.inl ab),World.rangeAt_setCells_apart h.num T (17+n*45+j) [v] (Or.inr (Or.inl (by rw[dX];omega))),fun m hm=>?_,bl (vs:=[v]) h.steps (Or.inr ab),bl (vs:=[v]) h.st (Or.inr ab)⟩,dN T [v] _ _ (Fr.refl _ _)⟩;by_cases e:m=n
 ·subst e;show World.rangeAt _ T (17+m*45) (dS (if m=m then x else t.tab m) (if m=m then w else g m));rw[aq rfl,aq rfl, <-hx];exact lg (h.tab m hm) (by rw[eM];exact hj)
 ·show World.rangeAt _ T (17+m*45) (dS (if m=n then x else t.tab m) (if m=n then w else g m));rw[aj e,aj e];exact World.rangeAt_setCells_apart (h.tab m hm) T (17+n*45+j) [v] (by
   right;rw[hl,eM];rcases Nat.lt_or_ge m n with q|q
   ·left;omega
   ·right;omega)
theorem bL.ny(h:bL U T B g sv t)(k:Int):bL (U.setCell ⟨T,287,none⟩ (.int .i64 k)) T B g sv {t with steps:=k}/\Fr (one T) U (U.setCell ⟨T,287,none⟩ (.int .i64 k)):=by
 refine⟨⟨dA T _ _ [_] _ _ h.cR,bl (vs:=[_]) h.main (Or.inl ae),World.rangeAt_setCells_apart h.num T 287 [_] (Or.inr (Or.inl (by rw[dX];decide))),fun m hm=>World.rangeAt_setCells_apart (h.tab m hm) T 287 [_] (Or.inr (Or.inl (by rw[eM];omega))),?_,bl (vs:=[_]) h.st (Or.inr (ar _))⟩,dN T [_] _ _ (Fr.refl _ _)⟩;exact World.cell?_setCell_same' U ⟨T,287,none⟩ _ (by rw[h.steps];rfl)
theorem bL.th(h:bL U T B g sv t)(v:Value)(s:List sU):bL (U.setCell ⟨T,288,none⟩ v) T B g v {t with cI:=s}/\Fr (one T) U (U.setCell ⟨T,288,none⟩ v):=by
 refine⟨⟨dA T _ _ [_] _ _ h.cR,bl (vs:=[_]) h.main (Or.inl ae),World.rangeAt_setCells_apart h.num T 288 [_] (Or.inr (Or.inl (by rw[dX];decide))),fun m hm=>World.rangeAt_setCells_apart (h.tab m hm) T 288 [_] (Or.inr (Or.inl (by rw[eM];omega))),bl (vs:=[_]) h.steps (Or.inl ae),?_⟩,dN T [_] _ _ (Fr.refl _ _)⟩;exact World.cell?_setCell_same' U ⟨T,288,none⟩ _ (by rw[h.st];rfl)
theorem bL.yT(h:bL U T B g sv t)(hp:p<4)(hi:i<4)(v:Int){f:Nat->Nat->Int}(hf:(dh t.num).set (p*4+i) (.int .i64 v)=dh f):bL (U.setCell ⟨T,1+(p*4+i),none⟩ (.int .i64 v)) T B g sv {t with num:=f}/\Fr (one T) U (U.setCell ⟨T,1+(p*4+i),none⟩ (.int .i64 v)):=by
 refine⟨⟨dA T _ _ [_] _ _ h.cR,bl (vs:=[_]) h.main (Or.inl ab),?_,fun m hm=>World.rangeAt_setCells_apart (h.tab m hm) T (1+(p*4+i)) [_] (Or.inr (Or.inr (by show 1+(p*4+i)+1<=_;omega))),bl (vs:=[_]) h.steps (Or.inr (by show 1+(p*4+i)+1<=_;omega)),bl (vs:=[_]) h.st (Or.inr (by show 1+(p*4+i)+1<=_;omega))⟩,dN T [_] _ _ (Fr.refl _ _)⟩;show World.rangeAt _ T 1 (dh f);rw[<-hf]
 exact lg h.num (by rw[dX];omega)
end
theorem step1{t:cX}(h:(t.tab n).does=1):stepT t n=({(t.put n {t.tab n with seen:=t.w,num:=t.num,does:=2})with steps:=t.steps+1},rep 0,false):=by unfold stepT;rw[aq h]
theorem step2{t:cX}(h:(t.tab n).does=2):stepT t n=({(t.put n {t.tab n with cP:=(fX (t.tab n).seen (t.tab n).op).2,seen:=(fX (t.tab n).seen (t.tab n).op).1,does:=3})with steps:=t.steps+1},rep 0,false):=by unfold stepT;rw[aj ab,aq h]
theorem CI{t:cX}(h:(t.tab n).does=3):stepT t n=cV {t with steps:=t.steps+1} n:=by unfold stepT;rw[aj ab,aj ab]
def kG(k:Nat):Value:=if k=0 then .nilIface else .iface 76 (.int .i64 k)
section
variable {U : World} {T B : Nat} {g : Nat → eU} {sv : Value} {t : cX}
theorem pX{n:Int}(h:nk n=true):∃i:Nat,n=(i:Int)/\i<6:=by
 unfold nk at h;simp only[aY,cE]at h;exact⟨n.toNat,ab,ab⟩
theorem tj(U:World)(T:Nat)(hi:i<6) :
  Calls prog 22 #[.pointer (some ⟨T,0,none⟩),.int .i64 i] U fun e w'=>e=.returned (.tuple #[.pointer (some ⟨T,17+i*45,none⟩),.nilIface])/\w'=U:=by
 have h1:(i:Int)<6:=ab;have h0:¬(i:Int)<0:=ab;have h2:¬(6:Int)<=(i:Int):=ab;have h3:(0:Int)<=(i:Int):=ab;go_enter func22,ntmps22;go_wp2;go_ret2;exact⟨rfl,rfl⟩
theorem pY(U:World)(T:Nat){n:Int}(hn:nk n=false) :
  Calls prog 22 #[.pointer (some ⟨T,0,none⟩),.int .i64 n] U fun e w'=>e=.returned (.tuple #[.pointer none,kG 2])/\w'=U:=by
 have hh:¬(0<=n/\n<6):=by
  intro hh;unfold nk at hn;simp[hh.1,hh.2]at hn
 clear hn;by_cases h0:n<0
 ·have h1:¬(0:Int)<=n:=ab;clear hh;go_enter func22,ntmps22;go_wp2;go_ret2;exact⟨rfl,rfl⟩
 ·have h1:(0:Int)<=n:=ab;have h4:(6:Int)<=n:=ab;have h5:¬n<6:=ab;clear hh;go_enter func22,ntmps22;go_wp2;go_ret2;exact⟨rfl,rfl⟩
end
theorem aQ.zn(h:aQ base w B pv x)(n:Int):aQ base (w.setCell ⟨B,12,none⟩ (.int .i64 n)) B pv {x with now:=n}/\Fr (one B) w (w.setCell ⟨B,12,none⟩ (.int .i64 n)):=by
 have ji:Fr (one B) w (w.setCell ⟨B,12,none⟩ (.int .i64 n)):=(Fr.refl (one B) w).setCell (p:=⟨B,12,none⟩) (fun _=>rfl) _;refine⟨⟨h.low,?_,fun i hi=>(h.part i hi).fr ji h.s5 (fun k hk e=>h.j9 hi (by have e':k=B:=e;rw[<-e'];exact hk)),h.apart⟩,ji⟩;rw[ba h.cR 12 (.int .i64 n)];rfl
theorem wk(base:Nat)(w:World)(B:Nat)(pv:Nat->bh)(x:bu)(o:dK)(hs:List dP)(h:aQ base w B pv x)(hf:dL w o hs)(hi:fG x)(a:World)(Ae:oC a)(Dk:a.heap.size<=base)(GW:Fr aU a w)(hr:(o.cH hs).right=true)(hw:o.what=10) :
  Calls prog 24 #[.pointer (some ⟨B,0,none⟩),.agg o.cells.toArray] w (l0 base w B pv (fX x (o.cH hs))):=by
 have Au:B<w.heap.size:=h.lt;have vV:=h.low;obtain⟨ah,ch,eK⟩:=hf.ew;obtain⟨w2,ks⟩:∃w2,w2=(w.alloc (.cells o.cells.toArray 35)).alloc (.cells bG 51):=⟨_,rfl⟩;have gB:Fr aU w w2:=by rw[ks];exact((Fr.refl aU w).alloc _).alloc _
 have k1:w2.heap[w.heap.size]?=some (.cells o.cells.toArray 35 (0,0)):=by rw[ks];exact((Fr.refl aU _).alloc _).keep (aB _ _) (fun h=>h)
 have k2:w2.heap[w.heap.size+1]?=some (.cells bG 51 (0,0)):=by
  have h:=aB (w.alloc (.cells o.cells.toArray 35)) (.cells bG 51);rw[World.size_alloc]at h;rw[ks];exact h
 have zo:=O (ld o hs w2 (hf.dv gB));have HH:=O (h.dv gB);have HF:=O (hf.dv gB);have o6:=O eK;have HI:=O hi;have gL:=O gB;have Av:=O k1;have kI:=O k2;have Fj:=O (show base<=w.heap.size from ab);have BG:=O vV;have Cp:=O Au;have K4:=O Ae;have K5:=O (GW.trans gB);have K6:=O Dk;rw[ks]at k1;rw[dz eK]at ks zo k1 ⊢;unfold bG at ks k1;have qH:=O ks;have ku:=O k1;clear ks eK gB k1 k2 h hf hi Ae Dk GW
 obtain⟨i,GX,Dx⟩:∃i:Nat,o.ak.part=(i:Int)/\i<4:=by
  obtain⟨h0,h1⟩:=eb hr;have Dy:0<=o.ak.part:=h0;have Du:o.ak.part<4:=h1;exact⟨o.ak.part.toNat,ab,ab⟩
 have JM:(i:Int)<4:=ab;have qa:¬(i:Int)<0:=ab;have Ek:¬(4:Int)<=(i:Int):=ab;have Bz:(0:Int)<=(i:Int):=ab;have Aw:=O Dx;have GY:=O GX;have Fk:=O (show fX x (o.cH hs)=if o.n<0\/1099511627776-x.now<o.n then(x,rep 7)else({x with now:=x.now+o.n},rep 1)from j0 hr hw);rw[hr]at zo;have n0:=HI.o.ok.now.1;have n1:=HI.o.ok.now.2;have on:=HF.o.n;have HW:=O hw;clear hr hw Dx GX;go_enter func24,ntmps24
 go_wp2_with (first|((with_reducible refine dC 8 ?_);go_must(refine wpList_load_row rfl 35 (.tmp 3) rfl w.heap.size rfl _ _ (0,0) _ ku.o underlying35 rfl af ?_))|fail)
 rw[<-qH.o];refine zo.o.mono ?_;rintro e u⟨rfl,hu⟩;obtain⟨a0,a1,a2,a3,a4,a5,a6,a7,a8,a9,uF,uG,a12,uH,uI,mA,uJ,uK,uL,uM,a20,a21⟩:=iq (hu.keep Av.o (fun h=>h)) o6.o;rw[GY.o]at a1;clear a0 a2 a3 a4 a5 a6 a7 a8 a9 uF uG a12 uH uI mA uJ uK uL uM a20 a21;have Cq:=O (show∀n,Fr aU w2 (u.drewN n)from fun n=>Fr.drewN n hu);clear hu ku;go_wp2_with fail
 go_quiet (fail);clear a1;have zp:=Cq.o nq;generalize u.drewN nq=u1 at zp ⊢;have Dz:=O zp;clear zp Cq;have JN:=O (Dz.o.keep Av.o (fun h=>h));rw[dz o6.o]at JN;obtain⟨a0,a1,a2,a3,a4,a5,a6,a7,a8,a9,uF,uG,a12,uH,uI,mA,uJ,uK,uL,uM,a20,a21⟩:=iq (Dz.o.keep Av.o (fun h=>h)) o6.o;rw[GY.o]at a1;have GZ:=HW.o;rw[GZ]at a0;clear GZ;clear a1 a2 a3 a4 a5 a6 a7 a8 a9 uF uG a12 uH uI mA uJ uK uL uM a20
 have p1:u1.cell? ⟨B,12,none⟩=some (.int .i64 x.now):=by
  have j2:=(HH.o.dv Dz.o).cR;simp only[World.cell?,j2];rfl
 have s6:=O (show∀n,Fr aU w2 (u1.drewN n)from fun n=>Fr.drewN n Dz.o);by_cases hn:o.n<0
 ·have hd:decide (o.n<0)=true:=aM hn;have HR:=O (Fk.o.trans (aq (Or.inl hn)));go_wp2_with fail
  go_quiet (fail);have jB:=s6.o nq;generalize u1.drewN nq=u2 at jB ⊢;have pU:=O (jB.keep kI.o (fun h=>h));have DA:=O (show aL base w B pv x u2 from aL.after gL.o (aL.same HH.o jB));go_wp2_with (first|((with_reducible refine dm 51 ?_);go_must(refine wpList_store_row rfl 51 (.tmp 4) (.tmp 103) rfl (w.heap.size+1) #[.int .i64 7,.string ⟨#[]⟩,.int .i64 0] rfl rfl _ bG pU.o (aX _ rfl) rfl bN ?_))|fail)
  refine bodyPost_ret (results_cell_row bq _ _ (w.heap.size+1) 51 #[.int .i64 7,.string ⟨#[]⟩,.int .i64 0] (0,0) _ rfl (setRow_heap _ (w.heap.size+1) _ _ _ _ pU.o) underlying51 rfl (aX _ rfl)) rfl ?_;unfold l0;rw[HR.o];exact⟨rfl,aL.row DA.o Fj.o Cp.o (Nat.le_succ _) pU.o iW ae _⟩
 ·have hd:decide (o.n<0)=false:=aN hn;by_cases hm:1099511627776-x.now<o.n
  ·have iP:decide (1099511627776-x.now<o.n)=true:=aM hm;have HR:=O (Fk.o.trans (aq (Or.inr hm)));go_wp2_with fail
   go_quiet (fail);have jB:=s6.o nq;generalize u1.drewN nq=u2 at jB ⊢;have pU:=O (jB.keep kI.o (fun h=>h));have DA:=O (show aL base w B pv x u2 from aL.after gL.o (aL.same HH.o jB));go_wp2_with (first|((with_reducible refine dm 51 ?_);go_must(refine wpList_store_row rfl 51 (.tmp 4) (.tmp 103) rfl (w.heap.size+1) #[.int .i64 7,.string ⟨#[]⟩,.int .i64 0] rfl rfl _ bG pU.o (aX _ rfl) rfl bN ?_))|fail)
   refine bodyPost_ret (results_cell_row bq _ _ (w.heap.size+1) 51 #[.int .i64 7,.string ⟨#[]⟩,.int .i64 0] (0,0) _ rfl (setRow_heap _ (w.heap.size+1) _ _ _ _ pU.o) underlying51 rfl (aX _ rfl)) rfl ?_;unfold l0;rw[HR.o];exact⟨rfl,aL.row DA.o Fj.o Cp.o (Nat.le_succ _) pU.o iW ae _⟩
  ·have iP:decide (1099511627776-x.now<o.n)=false:=aN hm;have HR:=O (Fk.o.trans (aj ab));go_wp2_with fail
   go_quiet (fail);have jB:=s6.o nq;generalize u1.drewN nq=u2 at jB ⊢;have pU:=O (jB.keep kI.o (fun h=>h));have DA:=O (show aL base w B pv x u2 from aL.after gL.o (aL.same HH.o jB));go_wp2_with fail
   have q1:u2.cell? ⟨B,12,none⟩=some (.int .i64 x.now):=by
    have j2:=(HH.o.dv jB).cR;simp only[World.cell?,j2];rfl
   have q2:u2.frozen? ⟨B,12,none⟩=false:=by
    have j2:=(HH.o.dv jB).cR;simp[World.frozen?,j2]
   obtain⟨a0,a1,a2,a3,a4,a5,a6,a7,a8,a9,uF,uG,a12,uH,uI,mA,uJ,uK,uL,uM,a20,a21⟩:=iq (jB.keep Av.o (fun h=>h)) o6.o;clear a0 a1 a2 a3 a4 a5 a6 a7 a8 a9 uF uG a12 uH uI mA uJ uK uL uM a20;have g1: -9223372036854775808<=x.now+o.n:=ab;have g2:x.now+o.n<=9223372036854775807:=ab
   go_region
   obtain⟨qt,vH⟩:=(HH.o.dv jB).zn (x.now+o.n);have G0:aL base u2 B pv {x with now:=x.now+o.n} (u2.setCell ⟨B,12,none⟩ (.int .i64 (x.now+o.n))):=⟨pv,qt,vH.mono (fun k _ e=>Or.inl e),fun k hk=>Or.inl hk⟩;have HP:=O (show aL base w B pv {x with now:=x.now+o.n} _ from aL.after gL.o (aL.after jB (G0.then (Fr.drew (Fr.refl aU _)))))
   have xz:=O (show((u2.setCell ⟨B,12,none⟩ (.int .i64 (x.now+o.n))).drew).heap[w.heap.size+1]?=_ from vH.keep pU.o (fun e=>by have e':w.heap.size+1=B:=e;have:=Cp.o;omega));clear qt vH G0 q1 q2 a21
   go_wp2_with (first|((with_reducible refine dm 51 ?_);go_must(refine wpList_store_row rfl 51 (.tmp 4) (.tmp 113) rfl (w.heap.size+1) #[.int .i64 1,.string ⟨#[]⟩,.int .i64 0] rfl rfl _ bG xz.o (aX _ rfl) rfl bN ?_))|fail)
   refine bodyPost_ret (results_cell_row bq _ _ (w.heap.size+1) 51 #[.int .i64 1,.string ⟨#[]⟩,.int .i64 0] (0,0) _ rfl (setRow_heap _ (w.heap.size+1) _ _ _ _ xz.o) underlying51 rfl (aX _ rfl)) rfl ?_;unfold l0;rw[HR.o];exact⟨rfl,aL.row HP.o Fj.o Cp.o (Nat.le_succ _) xz.o iW ae _⟩
