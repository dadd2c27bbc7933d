/- Lemmas for the law's walk. -/
import Derived.Test.YtnckmcnffadjoaaGreatDoorPk23
set_option maxRecDepth 100000
set_option maxHeartbeats 16000000
set_option linter.unusedSimpArgs false
namespace Go.Proofs.YtnckmcnffadjoaaGreatDoor
open Go.Proofs.Tryz
open Go.RowKit
variable {w:World} {o:iz} {hs:List gZ} {n:Int} {t:TypeId} {ah:Option Addr} {ch B base p i:Nat} {v:cU} {cs:List Value} {s:dx}
def bR:Array Value:= #[.int .i64 0,.string ⟨#[]⟩,.int .i64 0]
theorem gH.gX{o:jG}(h:gH w o hs):∃ah ch,o.aL.eo=.slice ah hs.length ch:=by
 obtain⟨a,c,e⟩:=dQ h.eo;rw[ai]at e;exact⟨a,c,e⟩
section
variable {base : Nat} {w w' : World} {B o : Nat} {cs : List Value} {v : cU} {p : dM}
theorem eP.fg(h:eP base w v p){n:Nat}{old:Array Value}(hn:w.heap[n]?=some (.cells old t (0,0)))(ht:t≠89/\t≠114/\t≠133/\t≠92/\t≠155/\t≠97):¬v.ke n:=fun hf=>by
 obtain⟨c,t',e,h'⟩:=h.ir hf;rw[hn]at e;cases e;obtain⟨h1,h2,h3,h4,h5,h6⟩:=ht;rcases h' with h|h|h|h|h|h
 ·exact h1 h
 ·exact h2 h
 ·exact h3 h
 ·exact h4 h
 ·exact h5 h
 ·exact h6 h
theorem di.row(h:di base w B cs o v p w'){n:Nat}{old:Array Value}{t:TypeId}(oF:base<=w.heap.size)(hB:B<w.heap.size)(hn:w.heap.size<=n)(hr:w'.heap[n]?=some (.cells old t (0,0)))
  (ht:t≠89/\t≠114/\t≠133/\t≠92/\t≠155/\t≠97)(hs:t≠9)(new:Array Value):di base w B cs o v p (w'.setRow n new):=by
 obtain⟨v',h1,h2,h3,h4⟩:=h;have kJ:Fr (one n) w' (w'.setRow n new):=(ae (one n) w').setRow (fun _=>rfl) _;have mU:sr base w' (one n):=by
  rintro k rfl _;exact⟨ab,fun c f e=>by rw[hr]at e;cases e;exact hs rfl⟩
 refine⟨v',h1.fr kJ mU (fun i hi e=>?_),h2.step kJ (fun k hk e=>?_),h3,kJ.keep h4 (fun e=>?_)⟩
 ·have e':i=n:=e;subst e';exact h1.fg hr ht hi
 ·have e':k=n:=e;omega
 ·have e':B=n:=e;omega
end
theorem eK:(30:TypeId)≠89/\(30:TypeId)≠114/\(30:TypeId)≠133/\(30:TypeId)≠92/\(30:TypeId)≠155/\(30:TypeId)≠97:=ag
theorem bd(x:Array Value)(h:x.size=3):(prog.info? 30).map (·.size)=some x.size:=by rw[h];kernel_rfl
theorem eh{b:Nat}{o:jG}(h:w.heap[b]?=some (.cells o.cells.toArray 41 (0,0)))(hh:o.aL.eo=.slice ah hs.length ch):w.cell? ⟨b,0,none⟩=some (.int .i64 o.what)/\w.cell? ⟨b,1,none⟩=some (.int .i64 o.aL.part)/\w.cell? ⟨b,2,none⟩=some (.bool o.aL.dm.aF)/\w.cell? ⟨b,3,none⟩=some (.string o.aL.dm.host)/\w.cell? ⟨b,4,none⟩=some (.int .i64 o.aL.dm.port)/\w.cell? ⟨b,5,none⟩=some (.bool o.aL.o.aF)/\w.cell? ⟨b,6,none⟩=some (.string o.aL.o.host)/\w.cell? ⟨b,7,none⟩=some (.int .i64 o.aL.o.port)/\w.cell? ⟨b,8,none⟩=some (.string o.aL.path)/\w.cell? ⟨b,9,none⟩=some (.string o.aL.query)/\w.cell? ⟨b,10,none⟩=some (.string o.aL.method)/\w.cell? ⟨b,11,none⟩=some (.slice ah hs.length ch)/\w.cell? ⟨b,12,none⟩=some (.bool o.aL.fU)/\w.cell? ⟨b,13,none⟩=some (.string o.aL.body)/\w.cell? ⟨b,14,none⟩=some (.bool o.proxy)/\w.cell? ⟨b,15,none⟩=some (.string o.text)/\w.cell? ⟨b,16,none⟩=some (.string o.user)/\w.cell? ⟨b,17,none⟩=some (.string o.pass)/\w.cell? ⟨b,18,none⟩=some (.string o.bP)/\w.cell? ⟨b,19,none⟩=some (.int .i64 o.cert)/\w.cell? ⟨b,20,none⟩=some (.bool o.all)/\w.cell? ⟨b,21,none⟩=some (.int .i64 o.n):=by
 have e:o.cells=[.int .i64 o.what,.int .i64 o.aL.part,.bool o.aL.dm.aF,.string o.aL.dm.host,.int .i64 o.aL.dm.port,.bool o.aL.o.aF,.string o.aL.o.host,.int .i64 o.aL.o.port,.string o.aL.path,.string o.aL.query,.string o.aL.method,.slice ah hs.length ch,.bool o.aL.fU,.string o.aL.body,.bool o.proxy,.string o.text,.string o.user,.string o.pass,.string o.bP,.int .i64 o.cert,.bool o.all,.int .i64 o.n]:=by unfold jG.cells gq.cells;rw[hh];rfl
 rw[e]at h;simp only[World.cell?,h];exact⟨rfl,rfl,rfl,rfl,rfl,rfl,rfl,rfl,rfl,rfl,rfl,rfl,rfl,rfl,rfl,rfl,rfl,rfl,rfl,rfl,rfl,rfl⟩
theorem eA{o:jG}(hh:o.aL.eo=.slice ah hs.length ch):o.cells=[.int .i64 o.what,.int .i64 o.aL.part,.bool o.aL.dm.aF,.string o.aL.dm.host,.int .i64 o.aL.dm.port,.bool o.aL.o.aF,.string o.aL.o.host,.int .i64 o.aL.o.port,.string o.aL.path,.string o.aL.query,.string o.aL.method,.slice ah hs.length ch,.bool o.aL.fU,.string o.aL.body,.bool o.proxy,.string o.text,.string o.user,.string o.pass,.string o.bP,.int .i64 o.cert,.bool o.all,.int .i64 o.n]:=by unfold jG.cells gq.cells;rw[hh];rfl
theorem Al{o:jG}(hh:o.aL.eo=.slice ah hs.length ch):o.aL.cells=[.int .i64 o.aL.part,.bool o.aL.dm.aF,.string o.aL.dm.host,.int .i64 o.aL.dm.port,.bool o.aL.o.aF,.string o.aL.o.host,.int .i64 o.aL.o.port,.string o.aL.path,.string o.aL.query,.string o.aL.method,.slice ah hs.length ch,.bool o.aL.fU,.string o.aL.body]:=by unfold gq.cells;rw[hh]
def eF(base:Nat)(w:World)(B:Nat)(cs:List Value)(off:Nat)(v:cU)(r:dM×kx)(e:Ending)(w':World):Prop :=
 e=.returned r.2.val/\di base w B cs off v r.1 w'
abbrev dw := @di.row
theorem EG(hr:o.right=true):1<=o.what/\o.what<=10:=by
 unfold iz.right at hr;simp only[cD,dD]at hr;exact⟨hr.1,hr.2.1⟩
theorem dM.apw{P Q:dM}(h1:P.bF=Q.bF)(h2:P.waits=Q.waits)(h3:P.book=Q.book)(h4:P.dE=Q.dE):P=Q:=by
 cases P;cases Q;simp only at h1 h2 h3 h4;rw[h1,h2,h3,h4]
theorem Au{P Q:dM}(h:P.bF=Q.bF):(iw P o).2=(iw Q o).2/\(iw P o).1.bF=(iw Q o).1.bF/\(iw P o).1.waits=P.waits/\(iw P o).1.book=P.book/\(iw P o).1.dE=P.dE:=by
 unfold iw;rw[h];split
 ·exact⟨rfl,rfl,rfl,rfl,rfl⟩
 ·split<;>exact⟨rfl,rfl,rfl,rfl,rfl⟩
theorem FR{P Q:dM}(h:P.bF=Q.bF)(h':P.waits=Q.waits):(fJ P o).2=(fJ Q o).2/\(fJ P o).1.bF=(fJ Q o).1.bF/\(fJ P o).1.waits=(fJ Q o).1.waits/\(fJ P o).1.book=P.book/\(fJ P o).1.dE=P.dE:=by
 unfold fJ;rw[h,h'];split
 ·exact⟨rfl,(by first|rfl|exact h),(by first|rfl|exact h'),rfl,rfl⟩
 ·split
  ·split
   ·exact⟨rfl,rfl,(by first|rfl|exact h'),rfl,rfl⟩
   ·exact⟨rfl,rfl,rfl,rfl,rfl⟩
  ·exact⟨rfl,(by first|rfl|exact h),(by first|rfl|exact h'),rfl,rfl⟩
theorem EH{P Q:dM}(h:P.bF=Q.bF)(h':P.waits=Q.waits):(fV P o).2=(fV Q o).2/\(fV P o).1.bF=(fV Q o).1.bF/\(fV P o).1.waits=(fV Q o).1.waits/\(fV P o).1.book=P.book/\(fV P o).1.dE=P.dE:=by
 unfold fV;rw[h,h'];split
 ·exact⟨rfl,(by first|rfl|exact h),rfl,rfl,rfl⟩
 ·exact⟨rfl,rfl,rfl,rfl,rfl⟩
theorem FT{P Q:dM}{now:Int}(h:P.book=Q.book):(gP P now o).2=(gP Q now o).2/\(gP P now o).1.book=(gP Q now o).1.book/\(gP P now o).1.bF=P.bF/\(gP P now o).1.waits=P.waits/\(gP P now o).1.dE=P.dE:=by
 unfold gP;rw[h];split
 ·exact⟨rfl,(by first|rfl|exact h),rfl,rfl,rfl⟩
 ·split<;>exact⟨rfl,rfl,rfl,rfl,rfl⟩
theorem Jg{P Q:dM}(h:P.dE=Q.dE):(jR P o).2=(jR Q o).2/\(jR P o).1.dE=(jR Q o).1.dE/\(jR P o).1.bF=P.bF/\(jR P o).1.waits=P.waits/\(jR P o).1.book=P.book:=by
 unfold jR;rw[h];split
 ·exact⟨rfl,(by first|rfl|exact h),rfl,rfl,rfl⟩
 ·exact⟨rfl,rfl,rfl,rfl,rfl⟩
theorem ae9{p:dM}(h:o.what=1):sF p n o=iw p o:=by
 unfold sF;rw[az h]
theorem ae_{p:dM}(h:o.what=2):sF p n o=fJ p o:=by
 unfold sF;rw[aq ab,az h]
theorem ae'{p:dM}(h:o.what=3):sF p n o=fV p o:=by
 unfold sF;rw[aq ab,aq ab,az h]
theorem afa{p:dM}(h:o.what=4):sF p n o=(p,rep (if mF p.book o.aL n then 5 else 4)):=by
 unfold sF;rw[aq ab,aq ab,aq ab,az h]
theorem afb{p:dM}(h:o.what=5):sF p n o=gP p n o:=by
 unfold sF;rw[aq ab,aq ab,aq ab,aq ab,az h]
theorem afc{p:dM}(h:o.what=6):sF p n o=(p,G5 p o):=by
 unfold sF;rw[aq ab,aq ab,aq ab,aq ab,aq ab,az h]
theorem afd{p:dM}(h:o.what=7):sF p n o=jR p o:=by
 unfold sF;rw[aq ab,aq ab,aq ab,aq ab,aq ab,aq ab,az h]
theorem aaK{p:dM}(h:o.what=8\/o.what=9):sF p n o=pA p o:=by
 unfold sF;rw[aq ab,aq ab,aq ab,aq ab,aq ab,aq ab,aq ab]
theorem WB(hr:o.right=true)(h:o.what=1):cJ o=(1,true):=by
 unfold cJ;rw[az hr,az ab]
theorem WC(hr:o.right=true)(h:o.what=2):cJ o=(1,true):=by
 unfold cJ;rw[az hr,az ab]
theorem WD(hr:o.right=true)(h:o.what=3):cJ o=(1,true):=by
 unfold cJ;rw[az hr,az ab]
theorem WE(hr:o.right=true)(h:o.what=4):cJ o=(10,false):=by
 unfold cJ;rw[az hr,aq ab,az h]
theorem WG(hr:o.right=true)(h:o.what=5):cJ o=(10,true):=by
 unfold cJ;rw[az hr,aq ab,aq ab,az h]
theorem WH(hr:o.right=true)(h:o.what=6):cJ o=(4,false):=by
 unfold cJ;rw[az hr,aq ab,aq ab,aq ab,az h]
theorem WI(hr:o.right=true)(h:o.what=7):cJ o=(4,true):=by
 unfold cJ;rw[az hr,aq ab,aq ab,aq ab,aq ab,az h]
theorem WJ(hr:o.right=true)(h:o.what=8):cJ o=(1,true):=by
 unfold cJ;rw[az hr,az ab]
theorem WK(hr:o.right=true)(h:o.what=9):cJ o=(7,true):=by
 unfold cJ;rw[az hr,aq ab,aq ab,aq ab,aq ab,aq ab,aq ab]
theorem BC(hr:o.right=true)(h:o.what=10):cJ o=(8,true):=by
 unfold cJ;rw[az hr,aq ab,aq ab,aq ab,aq ab,aq ab,az h]
theorem BD{P Q:dM}{m:Int}(hr:o.right=true)(M6:o.what≠10)(ha:u_ (cJ o).1 P Q)(hn:(cJ o).1.testBit 3=true->n=m) :
  (sF P n o).2=(sF Q m o).2/\u_ (cJ o).1 (sF P n o).1 (sF Q m o).1/\BB (cJ o).1 (sF P n o).1 P/\((cJ o).2=false->(sF P n o).1=P):=by
 have hw:=EG hr;have ajT:o.what=1\/o.what=2\/o.what=3\/o.what=4\/o.what=5\/o.what=6\/o.what=7\/o.what=8\/o.what=9:=ab;rcases ajT with h|h|h|h|h|h|h|h|h
 ·rw[WB hr h]at ha hn ⊢;rw[ae9 h,ae9 h];obtain⟨hg,hw'⟩:=ha.1 rfl;obtain⟨e1,e2,e3,e4,e5⟩:=Au (o:=o) hg;obtain⟨_,_,f3,_,_⟩:=Au (P:=Q) (Q:=Q) (o:=o) rfl;exact⟨e1,⟨fun _=>⟨e2,by rw[e3,f3,hw']⟩,fun h=>absurd h ag,fun h=>absurd h ag⟩,⟨fun h=>absurd h ag,fun _=>e4,fun _=>e5⟩,fun h=>(by cases h)⟩
 ·rw[WC hr h]at ha hn ⊢;rw[ae_ h,ae_ h];obtain⟨hg,hw'⟩:=ha.1 rfl;obtain⟨e1,e2,e3,e4,e5⟩:=FR (o:=o) hg hw';exact⟨e1,⟨fun _=>⟨e2,e3⟩,fun h=>absurd h ag,fun h=>absurd h ag⟩,⟨fun h=>absurd h ag,fun _=>e4,fun _=>e5⟩,fun h=>(by cases h)⟩
 ·rw[WD hr h]at ha hn ⊢;rw[ae' h,ae' h];obtain⟨hg,hw'⟩:=ha.1 rfl;obtain⟨e1,e2,e3,e4,e5⟩:=EH (o:=o) hg hw';exact⟨e1,⟨fun _=>⟨e2,e3⟩,fun h=>absurd h ag,fun h=>absurd h ag⟩,⟨fun h=>absurd h ag,fun _=>e4,fun _=>e5⟩,fun h=>(by cases h)⟩
 ·rw[WE hr h]at ha hn ⊢;rw[afa h,afa h];have hb:=ha.2.1 rfl;have DB:=hn rfl;exact⟨by rw[hb,DB],ha,lX _ _,fun _=>rfl⟩
 ·rw[WG hr h]at ha hn ⊢;have hb:=ha.2.1 rfl;have DB:=hn rfl;subst DB;rw[afb h,afb h];obtain⟨e1,e2,e3,e4,e5⟩:=FT (o:=o) (now:=n) hb;exact⟨e1,⟨fun h=>absurd h ag,fun _=>e2,fun h=>absurd h ag⟩,⟨fun _=>⟨e3,e4⟩,fun h=>absurd h ag,fun _=>e5⟩,fun h=>(by cases h)⟩
 ·rw[WH hr h]at ha hn ⊢;rw[afc h,afc h];have hc:=ha.2.2 rfl;exact⟨by unfold G5;rw[hc],ha,lX _ _,fun _=>rfl⟩
 ·rw[WI hr h]at ha hn ⊢;rw[afd h,afd h];have hc:=ha.2.2 rfl;obtain⟨e1,e2,e3,e4,e5⟩:=Jg (o:=o) hc;exact⟨e1,⟨fun h=>absurd h ag,fun h=>absurd h ag,fun _=>e2⟩,⟨fun _=>⟨e3,e4⟩,fun _=>e5,fun h=>absurd h ag⟩,fun h=>(by cases h)⟩
 ·rw[WJ hr h]at ha hn ⊢;rw[aaK (Or.inl h),aaK (Or.inl h)];obtain⟨hg,hw'⟩:=ha.1 rfl;unfold pA;rw[aq (by simp[h]),aq (by simp[h]),aq (by simp[h]),aq (by simp[h])];unfold uT;exact⟨rfl,⟨fun _=>⟨by simp only[hg],by simp only[hw']⟩,fun h=>absurd h ag,fun h=>absurd h ag⟩,⟨fun h=>absurd h ag,fun _=>rfl,fun _=>rfl⟩,fun h=>(by cases h)⟩
 ·rw[WK hr h]at ha hn ⊢;rw[aaK (Or.inr h),aaK (Or.inr h)];obtain⟨hg,hw'⟩:=ha.1 rfl;have e:P=Q:=dM.apw hg hw' (ha.2.1 rfl) (ha.2.2 rfl);subst e;exact⟨rfl,u_.refl _ _,⟨fun h=>absurd h ag,fun h=>absurd h ag,fun h=>absurd h ag⟩,fun h=>(by cases h)⟩
theorem uu{part:Int}(h0:0<=part)(h1:part<4)(w f:dx)(c:Nat):j8 w f part c={part:=fun i=>if i=part.toNat then iR c (w.part i) (f.part i)else w.part i,now:=if c.testBit 3 then f.now else w.now}:=by
 unfold j8;rw[az ⟨h0,h1⟩]
theorem Mb(w:dx)(part:Int):j8 w w part 0=w:=by
 unfold j8;split
 ·refine dx.eq (fun i=>?_) rfl;show(if i=_ then iR 0 (w.part i) (w.part i)else w.part i)=w.part i;split
  ·exact yR (lX _ _)
  ·rfl
 ·rfl
theorem uw(hr:o.right=false):cJ o=(0,false):=by unfold cJ;rw[hr];rfl
def Jh(o:iz)(v w:dx):Prop:=u_ (cJ o).1 (v.part o.part.toNat) (w.part o.part.toNat)/\((cJ o).1.testBit 3=true->v.now=w.now)
theorem Ck{v w:dx}(h:Jh o v w):(iC v o).2=(iC w o).2/\(o.right=true->Jh o (iC v o).1 (iC w o).1):=by
 cases hr:o.right
 ·rw[th hr,th hr];exact⟨rfl,fun h=>(by cases h)⟩
 ·by_cases M6:o.what=10
  ·have hn:=h.2 (by rw[BC hr M6];rfl);rw[rX hr M6,rX hr M6,hn];split
   ·exact⟨rfl,fun _=>h⟩
   ·exact⟨rfl,fun _=>⟨h.1,fun _=>rfl⟩⟩
  ·obtain⟨e1,e2,_,_⟩:=BD (n:=v.now) (m:=w.now) hr M6 h.1 h.2;rw[qt hr M6,qt hr M6];refine⟨e1,fun _=>⟨?_,fun hb=>h.2 hb⟩⟩;rw[kR,kR];exact e2
theorem OI{w:dx}(h:(cJ o).2=false):(iC w o).1=w:=by
 cases hr:o.right
 ·rw[th hr]
 ·by_cases M6:o.what=10
  ·rw[BC hr M6]at h;cases h
  ·obtain⟨_,_,_,e4⟩:=BD (P:=w.part o.part.toNat) (Q:=w.part o.part.toNat) (n:=w.now) (m:=w.now) hr M6 (u_.refl _ _) (fun _=>rfl);rw[qt hr M6,e4 h,oY]
theorem Hi(w:dx)(o:iz):j8 w (iC w o).1 o.part (cJ o).1=(iC w o).1:=by
 cases hr:o.right
 ·rw[th hr,uw hr];exact Mb w o.part
 ·obtain⟨p0,p1⟩:=iM hr;rw[uu p0 p1];by_cases M6:o.what=10
  ·rw[BC hr M6];refine dx.eq (fun i=>?_) ?_
   ·have hp:(iC w o).1.part=w.part:=by rw[rX hr M6];split<;>rfl
    show(if i=o.part.toNat then iR 8 (w.part i) ((iC w o).1.part i)else w.part i)=(iC w o).1.part i;rw[hp];split
    ·exact yR (lX _ _)
    ·rfl
   ·rfl
  ·obtain⟨_,_,e3,_⟩:=BD (P:=w.part o.part.toNat) (Q:=w.part o.part.toNat) (n:=w.now) (m:=w.now) hr M6 (u_.refl _ _) (fun _=>rfl);rw[qt hr M6];refine dx.eq (fun i=>?_) ?_
   ·show(if i=o.part.toNat then iR (cJ o).1 (w.part i) ((w.set o.part.toNat (sF (w.part o.part.toNat) w.now o).1).part i)else w.part i)=(w.set o.part.toNat (sF (w.part o.part.toNat) w.now o).1).part i;by_cases hi:i=o.part.toNat
    ·subst hi;rw[az rfl,kR];exact yR e3
    ·rw[aq hi,mW _ _ hi]
   ·show(if(cJ o).1.testBit 3=true then w.now else w.now)=w.now;split<;>rfl
theorem xg(base:Nat)(w:World)(B:Nat)(pv:Nat->cU)(x:dx)(h:cz base w B pv x)(i:Nat)(hi:i<4)(hl:(x.part i).bF.length<68719476736) :
  Calls prog 29 #[.pointer (some ⟨B,0,none⟩),.int .i64 i] w (D9 base w (x.part i).bF):=by
 have c:=(h.partAt hi).cell0;have HR:=O (D_ base w (pv i).b (pv i).gv (pv i).wv (x.part i).bF (x.part i).waits (h.part i hi).oC hl);have Nd:(i:Int)<4:=ab;have qD:¬(i:Int)<0:=ab;have NP:¬(4:Int)<=(i:Int):=ab;have Lf:(0:Int)<=(i:Int):=ab;clear h hl;go_enter func29,ntmps29;go_wp2_with fail
 refine HR.o.mono ?_;rintro e u⟨v',rfl,hg⟩;go_wp2;go_ret;exact⟨v',rfl,hg⟩
theorem Fc(base:Nat)(w:World)(B:Nat)(pv:Nat->cU)(x:dx)(h:cz base w B pv x)(i:Nat)(hi:i<4)(hl:(x.part i).waits.length<68719476736) :
  Calls prog 72 #[.pointer (some ⟨B,0,none⟩),.int .i64 i] w (GU base w (x.part i).waits):=by
 have c:=(h.partAt hi).cell0;have HR:=O (GV base w (pv i).b (pv i).gv (pv i).wv (x.part i).bF (x.part i).waits (h.part i hi).oC hl);have Nd:(i:Int)<4:=ab;have qD:¬(i:Int)<0:=ab;have NP:¬(4:Int)<=(i:Int):=ab;have Lf:(0:Int)<=(i:Int):=ab;clear h hl;go_enter func72,ntmps72;go_wp2_with fail
 refine HR.o.mono ?_;rintro e u⟨v',rfl,hg⟩;go_wp2;go_ret;exact⟨v',rfl,hg⟩
theorem Cn(base:Nat)(w:World)(B:Nat)(pv:Nat->cU)(x:dx)(h:cz base w B pv x)(i:Nat)(hi:i<4)(hl:(x.part i).book.length<1000000) :
  Calls prog 78 #[.pointer (some ⟨B,0,none⟩),.int .i64 i] w (fun e w'=>∃v',e=.returned v'/\OwnRows w.heap.size 155 12 w' v' ((x.part i).book.map ef.cells)/\Fr aR w w'):=by
 have c:=(h.partAt hi).hZ;have HR:=O (Af base w (pv i).k (pv i).kv (x.part i).book (h.part i hi).book hl);have Nd:(i:Int)<4:=ab;have qD:¬(i:Int)<0:=ab;have NP:¬(4:Int)<=(i:Int):=ab;have Lf:(0:Int)<=(i:Int):=ab;clear h hl;go_enter func78,ntmps78;go_wp2_with fail
 refine HR.o.mono ?_;rintro e u⟨v',rfl,hg⟩;go_wp2;go_ret;exact⟨v',rfl,hg⟩
theorem Fe(base:Nat)(w:World)(B:Nat)(pv:Nat->cU)(x:dx)(h:cz base w B pv x)(i:Nat)(hi:i<4)(hl:(x.part i).dE.length<=1000000) :
  Calls prog 73 #[.pointer (some ⟨B,0,none⟩),.int .i64 i] w (fun e w'=>∃v',e=.returned v'/\OwnRows w.heap.size 97 4 w' v' ((x.part i).dE.map lo)/\Fr aR w w'):=by
 have c:=(h.partAt hi).lV;have HR:=O (QD (pv i).cv ((x.part i).dE.map lo) w (h.part i hi).dE.at (by rw[ai];omega));have Nd:(i:Int)<4:=ab;have qD:¬(i:Int)<0:=ab;have NP:¬(4:Int)<=(i:Int):=ab;have Lf:(0:Int)<=(i:Int):=ab;obtain⟨a,k,hcv⟩:=(h.part i hi).dE.form;rw[ai]at hcv;rw[hcv]at c HR;clear h hl;go_enter func73,ntmps73;go_wp2_with fail
 refine HR.o.mono ?_;rintro e u⟨v',rfl,hg⟩;go_wp2;go_ret;exact⟨v',rfl,hg⟩
structure lh (x:dx):Prop where
 ok:ya x
 sm:Ew x
 path:Ex x
theorem lh.new:lh yN:=⟨ya.new,Ew.new,Ex.new⟩
theorem lh.iC{x:dx}(h:lh x)(o:iz)(hu:o.user.size<=5000)(hp:o.pass.size<=5000)(ha:o.path.size<=5000):lh (iC x o).1 :=
 ⟨h.ok.iC o,h.sm.iC o hu hp,h.path.iC o ha⟩
def FM(n:Int):iz:=⟨n,0,um,um,⟨#[47]⟩,⟨#[]⟩,⟨#[71,69,84]⟩,[],false,⟨#[]⟩,false,⟨#[66,97,115,105,99,32,114,101,97,108,109,61,114]⟩,⟨#[117]⟩,⟨#[112]⟩,⟨#[]⟩,0,false,0⟩
def Qv:dx:=(iC yN (FM 2)).1
def Qw:dx:=(iC Qv (FM 3)).1
def acn:dx:=(iC Qw (FM 1)).1
theorem aoD:(iC yN (FM 2)).2=⟨3,⟨#[]⟩,0⟩:=af
theorem aoE:(iC Qv (FM 3)).2=⟨1,⟨#[]⟩,0⟩:=af
theorem aoF:(iC Qw (FM 1)).2=⟨1,⟨#[66,97,115,105,99,32,100,84,112,119]⟩,0⟩:=af
theorem aoG:(acn.part 0).bF.length=1:=af
theorem aco:lh Qv:=lh.new.iC _ ag ag ag
theorem ai4:lh Qw:=aco.iC _ ag ag ag
theorem uV{n:Nat}{x:Obj}(h:w.heap[n]?=some x)(hn:n≠B)(o:Nat)(u:Value):(w.setCell ⟨B,o,none⟩ u).heap[n]?=some x :=
 ((ae (one B) w).setCell (p:=⟨B,o,none⟩) (fun _=>rfl) u).keep h hn
theorem V0{o:Nat}(h:o+2<cs.length):(po cs o v)[o]?=some (.pointer (some ⟨v.b,0,none⟩))/\(po cs o v)[o+1]?=some (.pointer (some ⟨v.k,0,none⟩))/\(po cs o v)[o+2]?=some v.cv:=by
 unfold po;refine⟨?_,?_,?_⟩
 ·rw[List.getElem?_set_ne ab,List.getElem?_set_ne ab,List.getElem?_set_self ab]
 ·rw[List.getElem?_set_ne ab,List.getElem?_set_self bG]
 ·rw[List.getElem?_set_self bG]
theorem R8(cs:List Value)(o:Nat)(v v':cU):po (po cs o v) o v'=po cs o v':=by
 unfold po;apply jk;intro i;simp only[List.getElem?_set,d_];by_cases h2:o+2=i
 ·simp[h2]
 by_cases h1:o+1=i
 ·simp[h1,h2]
 by_cases h0:o=i
 ·simp[h0]
 simp[h0,h1,h2]
theorem gT.after{w w1:World}{B off:Nat}{cs:List Value}{v v1:cU}(ha:gT w B cs off v)(hb:w1.heap[B]?=some (.cells (po cs off v1).toArray 86 (0,0))):gT w1 B (po cs off v1) off v1:=by
 have hl:off+2<cs.length:=(List.getElem?_eq_some_iff.1 ha.c2).1;obtain⟨h0,h1,h2⟩:=V0 (v:=v1) hl;exact⟨hb,h0,h1,h2⟩
theorem di.seq{base:Nat}{w w1 w2:World}{B off:Nat}{cs:List Value}{v v1:cU}{p2:dM}(f1:Fr (Ak B v) w w1)(Ch:∀k,v1.ke k->v.ke k\/w.heap.size<=k)(h2:di base w1 B (po cs off v1) off v1 p2 w2):di base w B cs off v p2 w2:=by
 obtain⟨v2,i2,f2,ai8,aoI⟩:=h2;refine⟨v2,i2,f1.step f2 (fun k hk hp=>?_),fun k hk=>?_,?_⟩
 ·rcases hp with rfl|hp
  ·exact Or.inl rfl
  ·rcases Ch k hp with h|h
   ·exact Or.inr h
   ·omega
 ·rcases ai8 k hk with h|h
  ·exact Ch k h
  ·exact Or.inr (aD f1.size h)
 ·rw[aoI,R8]
theorem di.fresh{off:Nat}{p:dM}(h:eP base w v p)(ha:gT w B cs off v)(oF:base<=B) :
  di base w B cs off v yM (((((w.alloc (.cells #[.slice none 0 0,.slice none 0 0] 89)).alloc (.cells #[.slice none 0 0] 92)).setCell ⟨B,off,none⟩ (.pointer (some ⟨w.heap.size,0,none⟩))).setCell ⟨B,off+1,none⟩ (.pointer (some ⟨w.heap.size+1,0,none⟩))).setCell ⟨B,off+2,none⟩ (.slice none 0 0)):=by
 have hB:¬v.ke B:=h.fg ha.eI ag;have uW:B<w.heap.size:=bj ha.eI;obtain⟨W,hW⟩:∃W,W=(w.alloc (.cells #[.slice none 0 0,.slice none 0 0] 89)).alloc (.cells #[.slice none 0 0] 92):=⟨_,rfl⟩;have hf:Fr aR w W:=by rw[hW];exact((ae aR w).alloc _).alloc _
 have xW:W.heap[w.heap.size]?=some (.cells #[.slice none 0 0,.slice none 0 0] 89 (0,0)):=by rw[hW];exact((ae aR _).alloc _).keep (aB _ _) id
 have NU:W.heap[w.heap.size+1]?=some (.cells #[.slice none 0 0] 92 (0,0)):=by
  have h:=aB (w.alloc (.cells #[.slice none 0 0,.slice none 0 0] 89)) (.cells #[.slice none 0 0] 92);rw[bM]at h;rw[hW];exact h
 rw[<-hW];have qe:=hf.keep ha.eI id;obtain⟨V,hV⟩:∃V,V=((W.setCell ⟨B,off,none⟩ (.pointer (some ⟨w.heap.size,0,none⟩))).setCell ⟨B,off+1,none⟩ (.pointer (some ⟨w.heap.size+1,0,none⟩))).setCell ⟨B,off+2,none⟩ (.slice none 0 0):=⟨_,rfl⟩;have Yq:Fr (one B) W V:=by
  rw[hV];exact(((ae (one B) W).setCell (p:=⟨B,off,none⟩) (fun _=>rfl) _).setCell (p:=⟨B,off+1,none⟩) (fun _=>rfl) _).setCell (p:=⟨B,off+2,none⟩) (fun _=>rfl) _
 have hbV:V.heap[B]?=some (.cells (po cs off ⟨w.heap.size,.slice none 0 0,.slice none 0 0,w.heap.size+1,.slice none 0 0,.slice none 0 0⟩).toArray 86 (0,0)):=by
  have e1:=b_ qe off (.pointer (some ⟨w.heap.size,0,none⟩));have e2:=b_ e1 (off+1) (.pointer (some ⟨w.heap.size+1,0,none⟩));have e3:=b_ e2 (off+2) (.slice none 0 0);rw[hV,e3];unfold po;simp
 rw[<-hV]
 refine⟨⟨w.heap.size,.slice none 0 0,.slice none 0 0,w.heap.size+1,.slice none 0 0,.slice none 0 0⟩,⟨⟨by show base<=w.heap.size;omega,Yq.keep xW (fun e=>by have e':w.heap.size=B:=e;omega),⟨[],dv _ _ _ _,.nil⟩,⟨[],dv _ _ _ _,.nil⟩⟩,⟨by show base<=w.heap.size+1;omega,Yq.keep NU (fun e=>by have e':w.heap.size+1=B:=e;omega),dv _ _ _ _⟩,dv _ _ _ _⟩,fX (S:=Ak B v) (hf.mono (fun _ _ h=>absurd h id)) Yq (fun _ _ e=>Or.inl e),?_,hbV⟩
 rintro k(hk|hk|hk)
 ·rcases hk with hk|hk|hk
  ·have e:k=w.heap.size:=hk;exact Or.inr ab
  ·simp[own,Value.ownBlock]at hk
  ·simp[own,Value.ownBlock]at hk
 ·rcases hk with hk|hk
  ·have e:k=w.heap.size+1:=hk;exact Or.inr ab
  ·simp[own,Value.ownBlock]at hk
 ·simp[own,Value.ownBlock]at hk
def eR(t:TypeId):Prop:=t≠89/\t≠114/\t≠133/\t≠92/\t≠155/\t≠97
theorem eH{w':World}{p:dM}{n:Nat}{c:Array Value}(h:eP base w v p)(hf:Fr (Ak B v) w w')(hn:w.heap[n]?=some (.cells c t (0,0)))(ht:eR t)(hB:n≠B):w'.heap[n]?=some (.cells c t (0,0)) :=
 hf.keep hn (fun e=>by
  rcases e with e|e
  ·exact hB e
  ·exact h.fg hn ht e)
theorem jo:eR 41:=by unfold eR;decide
theorem pT:eR 32:=by unfold eR;decide
theorem dH:eR 30:=by unfold eR;decide
theorem G':eR 37:=by unfold eR;decide
theorem Bt:eR 112:=by unfold eR;decide
abbrev iu := @gT.after
abbrev gK := @di.seq
structure vd where
 does:Nat
 op:iz
 fails:Nat
 gG:Int
 seen:dx
 num:Nat->Nat->Int
 dI:kx
def apx:iz:=⟨0,0,⟨false,.empty,0⟩,⟨false,.empty,0⟩,.empty,.empty,.empty,[],false,.empty,false,.empty,.empty,.empty,.empty,0,false,0⟩
def fe:vd:=⟨0,apx,0,0,yN,fun _ _=>0,rep 0⟩
structure xK where
 tab:Nat
 op:iz
 dI:kx
 gG:Int
 fin:Int
structure fD where
 w:dx
 num:Nat->Nat->Int
 tab:Nat->vd
 steps:Int
 cX:List xK
def sa:fD:=⟨yN,fun _ _=>0,fun _=>fe,0,[]⟩
def fD.put(t:fD)(n:Nat)(x:vd):fD:={t with tab:=fun i=>if i=n then x else t.tab i}
def mo(o:iz):List (Nat×Nat):=[0,1,2,3].filterMap fun i=>if(cJ o).1.testBit i then some (if i=3 then 0 else o.part.toNat,i)else none
def vA(o:iz)(f:Nat->Nat->Int):List Int:=(mo o).map fun c=>f c.1 c.2
def Av(o:iz)(f:Nat->Nat->Int):Nat->Nat->Int:=fun p i=>if(p,i)∈mo o then f p i+1 else f p i
def ja(t:fD)(n:Nat)(r:kx):fD :=
 {t with cX:=t.cX++[⟨n,(t.tab n).op,r,(t.tab n).gG,t.steps⟩],tab:=fun i=>if i=n then fe else t.tab i}
def iT(t:fD)(n:Nat):fD×(kx×Bool) :=
 if vA (t.tab n).op t.num=vA (t.tab n).op (t.tab n).num then
  (ja (if(cJ (t.tab n).op).2 then{t with w:=j8 t.w (t.tab n).seen (t.tab n).op.part (cJ (t.tab n).op).1,num:=Av (t.tab n).op t.num}else t) n (t.tab n).dI,(t.tab n).dI,true)
 else if(t.tab n).fails+1<=3 then(t.put n {t.tab n with fails:=(t.tab n).fails+1,does:=1},rep 0,false)
 else(ja (t.put n {t.tab n with fails:=(t.tab n).fails+1}) n (rep 6),rep 6,true)
def stepT(t:fD)(n:Nat):fD×(kx×Bool) :=
 if(t.tab n).does=1 then({(t.put n {t.tab n with seen:=t.w,num:=t.num,does:=2})with steps:=t.steps+1},rep 0,false)
 else if(t.tab n).does=2 then({(t.put n {t.tab n with dI:=(iC (t.tab n).seen (t.tab n).op).2,seen:=(iC (t.tab n).seen (t.tab n).op).1,does:=3})with steps:=t.steps+1},rep 0,false)
 else iT {t with steps:=t.steps+1} n
def FU(n:Int):Bool:=decide (0<=n)&&decide (n<6)
def lC(t:fD)(n:Int):fD×(kx×Bool×Nat) :=
 if FU n then
  if(t.tab n.toNat).does=0 then(t,rep 0,false,8)else((stepT t n.toNat).1,(stepT t n.toNat).2.1,(stepT t n.toNat).2.2,0)
 else(t,rep 0,false,2)
def yS(t:fD)(n:Int)(o:iz):fD×Nat :=
 if FU n then
  if(t.tab n.toNat).does=0 then({(t.put n.toNat {fe with does:=1,op:=o,gG:=t.steps+1})with steps:=t.steps+1},0)else(t,6)
 else(t,2)
def nM(t:fD)(n:Int):fD×Nat :=
 if FU n then
  if(t.tab n.toNat).does=0 then(t,8)else({(t.put n.toNat fe)with steps:=t.steps+1},0)
 else(t,2)
structure Sz where
 kind:Int
 tab:Int
 op:iz
def qT(t:fD)(m:Sz):fD :=
 if m.kind=1 then(yS t m.tab m.op).1 else if m.kind=2 then(nM t m.tab).1 else if m.kind=0 then(lC t m.tab).1 else t
def wY(l:List Sz):fD:=l.foldl qT sa
def ve(l:List xK):dx:=l.foldl (fun w e=>if e.dI.what=6 then w else(iC w e.op).1) yN
theorem xB(l:List xK)(e:xK):ve (l++[e])=if e.dI.what=6 then ve l else(iC (ve l) e.op).1:=by unfold ve;simp
def se(p i:Nat)(v w:dx):Prop :=
 (i=0->(v.part p).bF=(w.part p).bF/\(v.part p).waits=(w.part p).waits)/\(i=1->(v.part p).book=(w.part p).book)/\(i=2->(v.part p).dE=(w.part p).dE)/\(i=3->p=0->v.now=w.now)
theorem se.refl(p i:Nat)(w:dx):se p i w w:=⟨fun _=>⟨rfl,rfl⟩,fun _=>rfl,fun _=>rfl,fun _ _=>rfl⟩
theorem se.trans{u v w:dx}(h:se p i u v)(g:se p i v w):se p i u w :=
 ⟨fun e=>⟨(h.1 e).1.trans (g.1 e).1,(h.1 e).2.trans (g.1 e).2⟩,fun e=>(h.2.1 e).trans (g.2.1 e),fun e=>(h.2.2.1 e).trans (g.2.2.1 e),fun e e'=>(h.2.2.2 e e').trans (g.2.2.2 e e')⟩
theorem EI:(p,i)∈mo o↔i<4/\(cJ o).1.testBit i=true/\p=(if i=3 then 0 else o.part.toNat):=by
 unfold mo;simp only[List.mem_filterMap,bB,cq,dU];constructor
 ·rintro⟨j,hj,h⟩;split at h
  ·rename_i hb;simp only[en,iU]at h;obtain⟨h1,rfl⟩:=h;exact⟨ab,hb,h1.symm⟩
  ·cases h
 ·rintro⟨h1,h2,h3⟩;exact⟨i,ab,by rw[az h2,h3]⟩
def vR(t:fD)(s:dx)(f:Nat->Nat->Int):Prop:=∀p i,f p i<=t.num p i/\(f p i=t.num p i->i<4->se p i s t.w)
theorem vR.agree{t:fD}{f:Nat->Nat->Int}(h:vR t s f)(hv:vA o t.num=vA o f):Jh o s t.w:=by
 have key:∀c∈mo o,f c.1 c.2=t.num c.1 c.2:=fun c hc=>(List.map_inj_left.1 hv c hc).symm;have at':∀i,i<4->(cJ o).1.testBit i=true->se (if i=3 then 0 else o.part.toNat) i s t.w:=fun i hi hb =>
  (h _ i).2 (key (_,i) (EI.2 ⟨hi,hb,rfl⟩)) hi
 refine⟨⟨fun hb=>?_,fun hb=>?_,fun hb=>?_⟩,fun hb=>?_⟩
 ·exact(at' 0 ag hb).1 rfl
 ·exact(at' 1 ag hb).2.1 rfl
 ·exact(at' 2 ag hb).2.2.1 rfl
 ·exact(at' 3 ag hb).2.2.2 rfl rfl
theorem SB{w:dx}(h:Jh o s w):(iC s o).2=(iC w o).2/\((cJ o).2=true->j8 w (iC s o).1 o.part (cJ o).1=(iC w o).1):=by
 refine⟨(Ck h).1,fun hw=>?_⟩;cases hr:o.right
 ·rw[uw hr]at hw;cases hw
 ·obtain⟨p0,p1⟩:=iM hr;have g:=(Ck h).2 hr;rw[<-Hi w o,uu p0 p1,uu p0 p1];refine dx.eq (fun i=>?_) ?_
  ·show(if i=o.part.toNat then _ else _)=(if i=o.part.toNat then _ else _);split
   ·rename_i e;subst e;exact Ma g.1 (lX _ _)
   ·rfl
  ·show(if _ then _ else _)=(if _ then _ else _);split
   ·rename_i hb;exact g.2 hb
   ·rfl
theorem OJ(w:dx)(o:iz)(hi:i<4)(h:(p,i)∉mo o):se p i w (iC w o).1:=by
 rw[<-Hi w o];cases hr:o.right
 ·rw[uw hr];unfold j8;split
  ·have e:∀j,iR 0 (w.part j) ((iC w o).1.part j)=w.part j:=fun j=>rfl;refine⟨fun _=>?_,fun _=>?_,fun _=>?_,fun _ _=>rfl⟩
   ·show _=(if p=o.part.toNat then iR 0 _ _ else _).bF/\_=(if p=o.part.toNat then iR 0 _ _ else _).waits;split
    ·exact⟨rfl,rfl⟩
    ·exact⟨rfl,rfl⟩
   ·show _=(if p=o.part.toNat then iR 0 _ _ else _).book;split<;>rfl
   ·show _=(if p=o.part.toNat then iR 0 _ _ else _).dE;split<;>rfl
  ·exact se.refl _ _ _
 ·obtain⟨p0,p1⟩:=iM hr;rw[uu p0 p1];have hb:∀j,j<4->(cJ o).1.testBit j=true->i=j->p≠(if j=3 then 0 else o.part.toNat):=fun j hj hb e hp=>h (EI.2 ⟨hi,by rw[e];exact hb,by rw[e];exact hp⟩);refine⟨fun e=>?_,fun e=>?_,fun e=>?_,fun e ep=>?_⟩
  ·show _=(if p=o.part.toNat then iR _ _ _ else _).bF/\_=(if p=o.part.toNat then iR _ _ _ else _).waits;split
   ·rename_i hp;have:¬(cJ o).1.testBit 0=true:=fun b=>hb 0 ag b e hp;unfold iR;exact⟨(aq this).symm,(aq this).symm⟩
   ·exact⟨rfl,rfl⟩
  ·show _=(if p=o.part.toNat then iR _ _ _ else _).book;split
   ·rename_i hp;have:¬(cJ o).1.testBit 1=true:=fun b=>hb 1 ag b e hp;unfold iR;exact(aq this).symm
   ·rfl
  ·show _=(if p=o.part.toNat then iR _ _ _ else _).dE;split
   ·rename_i hp;have:¬(cJ o).1.testBit 2=true:=fun b=>hb 2 ag b e hp;unfold iR;exact(aq this).symm
   ·rfl
  ·have:¬(cJ o).1.testBit 3=true:=fun b=>hb 3 ag b e ep;show w.now=(if _ then _ else _);exact(aq this).symm
theorem VS.acE{n:Nat}{er:Value}(h:VS n er w):∃t x,er=.iface t x:=by
 rcases h with rfl|⟨g,p,rfl,_⟩
 ·exact⟨_,_,rfl⟩
 ·exact⟨_,_,rfl⟩
theorem Mk(base:Nat)(w:World)(B off:Nat)(cs:List Value)(v:cU)(p:dM)(o:jG)(hs:List gZ)(now:Int)(h:eP base w v p)(ha:gT w B cs off v)(oF:base<=B)(hf:gH w o hs)(hk:nr p)(ht:wO w)(n0:0<=now)(n1:now<=1099511627776) :
  Calls prog 34 #[.pointer (some ⟨B,off,none⟩),.agg o.cells.toArray,.int .i64 now] w (eF base w B cs off v (gP p now (o.dS hs))):=by
 have uW:B<w.heap.size:=bj ha.eI;have Hf:¬v.ke B:=h.fg ha.eI ag;obtain⟨ah,ch,gV⟩:=hf.gX;have Su:=hk.tG.2.2.1;have SL:=hf.text;obtain⟨w2,eB⟩:∃w2,w2=(w.alloc (.cells o.cells.toArray 41)).alloc (.cells bR 30):=⟨_,rfl⟩;have dy:Fr aR w w2:=by rw[eB];exact((ae aR w).alloc _).alloc _
 have k1:w2.heap[w.heap.size]?=some (.cells o.cells.toArray 41 (0,0)):=by rw[eB];exact((ae aR _).alloc _).keep (aB _ _) id
 have k2:w2.heap[w.heap.size+1]?=some (.cells bR 30 (0,0)):=by
  have h:=aB (w.alloc (.cells o.cells.toArray 41)) (.cells bR 30);rw[bM]at h;rw[eB];exact h
 have Wp:=O (show∀U,Fr aR w2 U->U.heap[w.heap.size]?=some (.cells o.cells.toArray 41 (0,0))from fun U hU=>hU.keep k1 id);have C5:=O Hf;have HH:=O h;have HA:=O ha;have HF:=O hf;have lS:=O gV;have HT:=O ht;have fO:=O dy;have qR:=O k2;have pj:=O (show base<=w.heap.size from ab);have o9:=O uW;have FL:=O (OV o.text w2 SL);have Se:=O eB
 obtain⟨a0,a1,a2,a3,a4,a5,a6,a7,a8,a9,jI,jJ,a12,jH,jK,jr,jY,jZ,j5,kf,a20,a21⟩:=eh k1 gV;rw[eB]at a0 a1 a2 a3 a4 a5 a6 a7 a8 a9 jI jJ a12 jH jK jr jY jZ j5 kf a20 a21;rw[eA gV]at eB a0 a1 a2 a3 a4 a5 a6 a7 a8 a9 jI jJ a12 jH jK jr jY jZ j5 kf a20 a21 ⊢;unfold bR at eB a0 a1 a2 a3 a4 a5 a6 a7 a8 a9 jI jJ a12 jH jK jr jY jZ j5 kf a20 a21;have nJ:=O eB;clear eB gV dy k1 k2 h ha hf Hf hk ht SL
 go_enter func34,ntmps34;go_wp2_with fail
 rw[<-nJ.o];refine FL.o.mono ?_;rintro e u1 GH;clear a0 a1 a2 a3 a4 a5 a6 a7 a8 a9 jI jJ a12 jH jK jr jY jZ j5 kf a20 a21;obtain⟨uA,GH⟩:=GH;have I9:=O uA;cases zU:mQ o.text.data.toList with
 |error n =>
  rw[zU]at GH;obtain⟨er,rfl,hen⟩:=GH;obtain⟨et,ev,rfl⟩:=hen.acE;have HR:=O (show gP p now (o.dS hs)=(p,rep 7)by unfold gP;rw[show(o.dS hs).text=o.text from rfl,zU]);have Bx:=O (uA.keep qR.o id);clear zU hen uA
  go_wp2_with (first|((with_reducible refine cV 30 ?_);refine aE rfl 30 (.tmp 6) (.tmp 18) rfl (w.heap.size+1) #[.int .i64 7,.string ⟨#[]⟩,.int .i64 0] rfl rfl _ bR Bx.o (bd _ rfl) rfl ct ?_)|fail)
  refine aS (bu bC _ _ (w.heap.size+1) 30 #[.int .i64 7,.string ⟨#[]⟩,.int .i64 0] (0,0) _ rfl (aX u1 (w.heap.size+1) _ _ _ _ Bx.o) underlying30 rfl (bd _ rfl)) rfl ?_;unfold eF;rw[HR.o];exact⟨rfl,dw (ml HH.o HA.o (fO.o.trans I9.o)) pj.o o9.o (bU _) Bx.o eK ag _⟩
 |ok l =>
  rw[zU]at GH;obtain⟨v1,rfl,Bb⟩:=GH;have rS:=Bb.form;rw[ai]at rS;obtain⟨al,cl,rfl⟩:=rS;have pk:=Jl zU;have hh1:=bg HF.o.eo (fO.o.trans uA);have GR:=O (SF o.aL hs _ l now u1 hh1 Bb.at pk HF.o.aL (HT.o.fr (fO.o.trans uA)) HF.o.VY.1 HF.o.VY.2 HF.o.dm n0 n1);rw[Al lS.o]at GR;obtain⟨a0,a1,a2,a3,a4,a5,a6,a7,a8,a9,jI,jJ,a12,jH,jK,jr,jY,jZ,j5,kf,a20,a21⟩:=eh (Wp.o u1 uA) lS.o;have HFL:=O zU
  clear zU uA Bb pk hh1;go_wp2_with fail
  refine GR.o.mono ?_;rintro e u2⟨nv,Dq⟩;clear a0 a1 a2 a3 a4 a5 a6 a7 a8 a9 jI jJ a12 jH jK jr jY jZ j5 kf a20 a21 GR;have tW:=O (I9.o.trans nv);have rO:=O (fO.o.trans tW.o);cases hg:uI (o.aL.dS hs) (xH o.aL.dm).data.toList l now with
  |error n =>
   rw[hg]at Dq;obtain rfl:=Dq;have HR:=O (show gP p now (o.dS hs)=({p with book:=p.book.filter (fun q=>!q.vu (o.aL.dS hs))},rep 2)by
    unfold gP;rw[show(o.dS hs).text=o.text from rfl,HFL.o];simp only;rw[show uI (o.dS hs).aL (Ge (o.dS hs).dm.dS) l now=.error n from hg];rfl)
   have Hn:=O (show∀U,Fr (iA v.k v.kv) u2 U->(U.cell? ⟨B,off+1,none⟩=some (.pointer (some ⟨v.k,0,none⟩))/\U.cell? ⟨w.heap.size,1,none⟩=some (.int .i64 o.aL.part)/\U.cell? ⟨w.heap.size,2,none⟩=some (.bool o.aL.dm.aF)/\U.cell? ⟨w.heap.size,3,none⟩=some (.string o.aL.dm.host)/\U.cell? ⟨w.heap.size,4,none⟩=some (.int .i64 o.aL.dm.port)/\U.cell? ⟨w.heap.size,5,none⟩=some (.bool o.aL.o.aF)/\U.cell? ⟨w.heap.size,6,none⟩=some (.string o.aL.o.host)/\U.cell? ⟨w.heap.size,7,none⟩=some (.int .i64 o.aL.o.port)/\U.cell? ⟨w.heap.size,8,none⟩=some (.string o.aL.path)/\U.cell? ⟨w.heap.size,9,none⟩=some (.string o.aL.query)/\U.cell? ⟨w.heap.size,10,none⟩=some (.string o.aL.method)/\U.cell? ⟨w.heap.size,11,none⟩=some (.slice ah hs.length ch)/\U.cell? ⟨w.heap.size,12,none⟩=some (.bool o.aL.fU)/\U.cell? ⟨w.heap.size,13,none⟩=some (.string o.aL.body))from fun U hU=>by
    have j1:=(HA.o.dh rO.o).fr hU (fun hb=>C5.o (Or.inr (Or.inl hb)));have j2:=hU.keep (Wp.o u2 tW.o) (fun hb=>by
     have h3:=(HH.o.dh rO.o).book.ir hb;obtain⟨c,t,e,hk⟩:=h3;rw[Wp.o u2 tW.o]at e;cases e;revert hk;decide)
    obtain⟨a0,a1,a2,a3,a4,a5,a6,a7,a8,a9,jI,jJ,a12,jH,jK,jr,jY,jZ,j5,kf,a20,a21⟩:=eh j2 lS.o;exact⟨j1.hZ,a1,a2,a3,a4,a5,a6,a7,a8,a9,jI,jJ,a12,jH⟩)
   have HFG:=O (show∀U,Fr aR u2 U->Calls prog 66 #[.pointer (some ⟨v.k,0,none⟩),.agg #[.int .i64 o.aL.part,.bool o.aL.dm.aF,.string o.aL.dm.host,.int .i64 o.aL.dm.port,.bool o.aL.o.aF,.string o.aL.o.host,.int .i64 o.aL.o.port,.string o.aL.path,.string o.aL.query,.string o.aL.method,.slice ah hs.length ch,.bool o.aL.fU,.string o.aL.body]] U (uo base U v.k v.kv p.book (ef.vu (o.aL.dS hs)))from fun U hU=>by
    have:=LQ base U v.k v.kv p.book o.aL hs ((HH.o.dh rO.o).dh hU).book ab;rw[Al lS.o]at this;exact this)
   clear hg;go_wp2_with fail
   go_region_held3 (fun U=>Fr (iA v.k v.kv) u2 U/\U.cell? ⟨B,off+1,none⟩=some (.pointer (some ⟨v.k,0,none⟩))/\U.cell? ⟨w.heap.size,1,none⟩=some (.int .i64 o.aL.part)/\U.cell? ⟨w.heap.size,2,none⟩=some (.bool o.aL.dm.aF)/\U.cell? ⟨w.heap.size,3,none⟩=some (.string o.aL.dm.host)/\U.cell? ⟨w.heap.size,4,none⟩=some (.int .i64 o.aL.dm.port)/\U.cell? ⟨w.heap.size,5,none⟩=some (.bool o.aL.o.aF)/\U.cell? ⟨w.heap.size,6,none⟩=some (.string o.aL.o.host)/\U.cell? ⟨w.heap.size,7,none⟩=some (.int .i64 o.aL.o.port)/\U.cell? ⟨w.heap.size,8,none⟩=some (.string o.aL.path)/\U.cell? ⟨w.heap.size,9,none⟩=some (.string o.aL.query)/\U.cell? ⟨w.heap.size,10,none⟩=some (.string o.aL.method)/\U.cell? ⟨w.heap.size,11,none⟩=some (.slice ah hs.length ch)/\U.cell? ⟨w.heap.size,12,none⟩=some (.bool o.aL.fU)/\U.cell? ⟨w.heap.size,13,none⟩=some (.string o.aL.body)) ((refine(fun hU=>⟨hU,Hn.o _ hU⟩) ?_;first|exact aA (ae _ _)|assumption))
    ((first
     |(go_at_call 66;refine(HFG.o _ (aA (ae _ _))).mono ?_;rintro e u3 ⟨rfl,tK⟩;have wW:Fr (iA v.k v.kv) u2 u3:=(aA (ae _ _)).trans (by obtain⟨_,_,h,_⟩:=tK;exact h))))
   have HPP:=O (oZ ((HH.o.dh rO.o).dh (aA (ae aR u2))) ((HA.o.dh rO.o).dh (aA (ae aR u2))) C5.o tK);have Bx:=O (wW.keep (tW.o.keep qR.o id) (fun hb=>by
    obtain⟨c,t,e,hk⟩:=(HH.o.dh rO.o).book.ir hb;rw[tW.o.keep qR.o id]at e;cases e;revert hk;decide))
   clear tK wW Hn HFG;go_wp2_with (first|((with_reducible refine cV 30 ?_);refine aE rfl 30 (.tmp 6) (.tmp 36) rfl (w.heap.size+1) #[.int .i64 2,.string ⟨#[]⟩,.int .i64 0] rfl rfl _ bR Bx.o (bd _ rfl) rfl ct ?_)|fail)
   refine aS (bu bC _ _ (w.heap.size+1) 30 #[.int .i64 2,.string ⟨#[]⟩,.int .i64 0] (0,0) _ rfl (aX u3 (w.heap.size+1) _ _ _ _ Bx.o) underlying30 rfl (bd _ rfl)) rfl ?_;unfold eF;rw[HR.o];exact⟨rfl,dw ((HPP.o.after (aA (ae aR u2))).after rO.o) pj.o o9.o (bU _) Bx.o eK ag _⟩
  |ok m =>
   rw[hg]at Dq;obtain⟨v2,rfl,q_⟩:=Dq;have HR:=O (show gP p now (o.dS hs)=({p with book:=uH p.book m now},rep 1)by
    unfold gP;rw[show(o.dS hs).text=o.text from rfl,HFL.o];simp only;rw[show uI (o.dS hs).aL (Ge (o.dS hs).dm.dS) l now=.ok m from hg])
   have sZ:=SK hg;have hbo:=(HH.o.dh rO.o).book;have akg:=q_.form;rw[ai]at akg;obtain⟨am,cm,rfl⟩:=akg;have HP:=O (LB base u2 v.k v.kv p.book _ m now hbo q_.at (fun _ k hk hb=>by
    have h1:=q_.block k hk;have h2:=HH.o.jh (Or.inr (Or.inl hb));have h3:=fO.o.size;have h4:=I9.o.size;omega) ab)
   have c1:=(HA.o.dh rO.o).hZ;clear hg sZ hbo q_;go_wp2_with fail
   refine HP.o.mono ?_;rintro e u3⟨rfl,tK⟩;have HPP:=O (oZ (HH.o.dh rO.o) (HA.o.dh rO.o) C5.o tK);have wW:Fr (iA v.k v.kv) u2 u3:=by obtain⟨_,_,h,_⟩:=tK;exact h
   have Bx:=O (wW.keep (tW.o.keep qR.o id) (fun hb=>by
    obtain⟨c,t,e,hk⟩:=(HH.o.dh rO.o).book.ir hb;rw[tW.o.keep qR.o id]at e;cases e;revert hk;decide))
   clear tK wW HP c1;go_wp2_with (first|((with_reducible refine cV 30 ?_);refine aE rfl 30 (.tmp 6) (.tmp 44) rfl (w.heap.size+1) #[.int .i64 1,.string ⟨#[]⟩,.int .i64 0] rfl rfl _ bR Bx.o (bd _ rfl) rfl ct ?_)|fail)
   refine aS (bu bC _ _ (w.heap.size+1) 30 #[.int .i64 1,.string ⟨#[]⟩,.int .i64 0] (0,0) _ rfl (aX u3 (w.heap.size+1) _ _ _ _ Bx.o) underlying30 rfl (bd _ rfl)) rfl ?_;unfold eF;rw[HR.o];exact⟨rfl,dw (HPP.o.after rO.o) pj.o o9.o (bU _) Bx.o eK ag _⟩
theorem di.dE{base:Nat}{w1 w2:World}{B off:Nat}{cs:List Value}{v:cU}{p:dM}{Yz:Value}{l:List (gz×Int)}(h:eP base w1 v p)(ha:gT w1 B cs off v)(oF:base<=B)(ho:OwnRows base 97 4 w2 Yz (l.map lo))(hf:Fr (own v.cv) w1 w2)(cP:∀k,own Yz k->own v.cv k\/w1.heap.size<=k) :
  di base w1 B cs off v {p with dE:=l} (w2.setCell ⟨B,off+2,none⟩ Yz):=by
 have hB:¬v.ke B:=h.fg ha.eI ag;have qe:=hf.keep ha.eI (fun hb=>hB (Or.inr (Or.inr hb)));have mU:sr base w1 (own v.cv):=fun k hk hl=>h.off k (Or.inr (Or.inr hk)) hl;have kJ:Fr (one B) w2 (w2.setCell ⟨B,off+2,none⟩ Yz):=(ae (one B) w2).setCell (p:=⟨B,off+2,none⟩) (fun _=>rfl) _;have ap7:sr base w2 (one B):=by
  rintro k rfl _;exact⟨oF,fun c f e=>by rw[qe]at e;cases e⟩
 have uW:B<w1.heap.size:=bj ha.eI;have p2:dB base w2 v.b v.gv v.wv p.bF p.waits:=h.oC.fr hf mU (fun hb=>h.xv (Or.inl rfl) hb) (fun k hk hb=>h.xv (Or.inr (Or.inl hk)) hb) (fun k hk hb=>h.xv (Or.inr (Or.inr hk)) hb);have p3:eO base w2 v.k v.kv p.book:=h.book.fr hf (fun k hk hb=>h.G9 hk hb);refine⟨⟨v.b,v.gv,v.wv,v.k,v.kv,Yz⟩,⟨p2.fr kJ ap7 ?_ ?_ ?_,p3.fr kJ ?_,ho.fr kJ ?_⟩,?_,?_,?_⟩
 ·intro e;exact hB (Or.inl (by rw[<-show v.b=B from e];exact Or.inl rfl))
 ·intro k hk e;exact hB (Or.inl (by rw[<-show k=B from e];exact Or.inr (Or.inl hk)))
 ·intro k hk e;exact hB (Or.inl (by rw[<-show k=B from e];exact Or.inr (Or.inr hk)))
 ·intro k hk e;exact hB (Or.inr (Or.inl (by rw[<-show k=B from e];exact hk)))
 ·intro k hk e;have e':k=B:=e;subst e';rcases cP k hk with h1|h1
  ·exact hB (Or.inr (Or.inr h1))
  ·omega
 ·exact(show Fr (Ak B v) w1 w2 from hf.mono (fun k _ hk=>Or.inr (Or.inr (Or.inr hk)))).setCell (p:=⟨B,off+2,none⟩) (fun _=>Or.inl rfl) _
 ·rintro k(hk|hk|hk)
  ·exact Or.inl (Or.inl hk)
  ·exact Or.inl (Or.inr (Or.inl hk))
  ·rcases cP k hk with h1|h1
   ·exact Or.inl (Or.inr (Or.inr h1))
   ·exact Or.inr h1
 ·have e:=b_ qe (off+2) Yz;rw[e];have e2:po cs off ⟨v.b,v.gv,v.wv,v.k,v.kv,Yz⟩=cs.set (off+2) Yz:=by
   have:=xy ha.c0 ha.c1 ha.c2;unfold po at this ⊢;simp only;have h3:(cs.set off (.pointer (some ⟨v.b,0,none⟩))).set (off+1) (.pointer (some ⟨v.k,0,none⟩))=cs:=by
    apply jk;intro i;by_cases h1:i=off+1
    ·subst h1;rw[List.getElem?_set_self (by simp;exact(List.getElem?_eq_some_iff.1 ha.c1).1),ha.c1]
    rw[List.getElem?_set_ne (kY h1)];by_cases h0:i=off
    ·subst h0;rw[List.getElem?_set_self (List.getElem?_eq_some_iff.1 ha.c0).1,ha.c0]
    rw[List.getElem?_set_ne (kY h0)]
   rw[h3]
  rw[e2];simp
theorem Jn(o:gz)(l:List (gz×Int)):(l.map lo).filter (fun x=>!Qo o x)=(LH o l).map lo:=by
 unfold LH;rw[List.filter_map];rfl
theorem Hp(c:gz×Int):∀u∈lo c,u.oneCell'=true:=by
 intro u hu;unfold lo at hu;simp only[bB,cq,dU]at hu;rcases hu with rfl|rfl|rfl|rfl<;>rfl
theorem OZ(c:gz×Int)(o:gz)(bo:Nat)(w:World)(ho:w.heap[bo]?=some (.cells #[.bool o.aF,.string o.host,.int .i64 o.port] 32 (0,0))) :
  Calls prog 142 #[.agg (lo c).toArray,.pointer (some ⟨bo,0,none⟩)] w fun e w'=>e=.returned (.bool (Qo o (lo c)))/\Fr aR w w':=by
 have hC:=O (show Qo o (lo c)=c.1.ll o from rfl);have heq:=jz c.1 o;rw[hC.o];unfold lo;have gS:Fr aR w _:=(ae aR w).alloc (.cells #[.bool c.1.aF,.string c.1.host,.int .i64 c.1.port,.int .i64 c.2] 97);have q_:=O (gS.keep ho id);clear hC ho;go_enter func142,ntmps142
 go_wp2_with (first|((with_reducible refine cY 6 ?_);refine aH rfl 32 (.tmp 1) rfl bo rfl _ _ (0,0) _ q_.o underlying32 rfl af ?_)|fail)
 go_ret;exact⟨rfl,gS⟩
theorem Mr(base:Nat)(w:World)(B off:Nat)(cs:List Value)(v:cU)(p:dM)(o:gz)(h:eP base w v p)(ha:gT w B cs off v)(oF:base<=B) :
  Calls prog 68 #[.pointer (some ⟨B,off,none⟩),.agg o.cells.toArray] w fun e w'=>e=.returned (.tuple #[])/\di base w B cs off v {p with dE:=LH o p.dE} w':=by
 unfold gz.cells;have pg:Fr aR w (w.alloc (.cells #[.bool o.aF,.string o.host,.int .i64 o.port] 32)):=(ae aR w).alloc _;have hbo:=aB w (.cells #[.bool o.aF,.string o.host,.int .i64 o.port] 32);have h1:=h.dh pg;have ha1:=ha.dh pg;have uW:B<w.heap.size:=bj ha.eI;have vt:∀k,own v.cv k->k<w.heap.size:=fun k hk=>h.jh (Or.inr (Or.inr hk))
 have hd:=FQ base 142 #[.pointer (some ⟨w.heap.size,0,none⟩)] (Qo o) v.cv (p.dE.map lo) _ call142 (fun x hx u hu=>by
  obtain⟨c,_,rfl⟩:=bV.1 hx;exact OZ c o w.heap.size u (hu.keep hbo (fun hk=>by have:=vt _ hk;omega))) h1.dE
 rw[Jn,ai]at hd;have c2:=ha1.lV;have f2:=ha1.free (off+2);obtain⟨av,cv,hcv⟩:=h1.dE.form;rw[ai]at hcv;rw[hcv]at c2 hd;have xI:=O hcv;have HD:=O hd;have H1:=O h1;have HA1:=O ha1;have Yy:=O pg;have Hf:¬v.ke B:=h.fg ha.eI ag;have C5:=O Hf;clear h ha hbo h1 ha1 hd hcv pg Hf f2 vt;go_enter func68,ntmps68;go_wp2_with fail
 refine HD.o.mono ?_;rintro e w2⟨a2,c2',rfl,q_,dy,fy⟩;rw[<-xI.o]at dy fy;have HP:=O (di.dE H1.o HA1.o oF q_ dy (fun k hk=>Or.inl (by rw[<-fy];exact hk)));have WW:=dy.keep HA1.o.eI (fun hb=>C5.o (Or.inr (Or.inr hb)));have d2:w2.cell? ⟨B,off+2,none⟩=some (.slice av p.dE.length cv):=by
  have e:=HA1.o.c2;rw[xI.o]at e;simp[World.cell?,WW,e]
 have e2:w2.frozen? ⟨B,off+2,none⟩=false:=by simp[World.frozen?,WW]
 clear HD c2 q_ dy fy WW;go_wp2;go_end0;exact⟨rfl,HP.o.after Yy.o⟩
theorem xC(w:World)(o:jG)(hs:List gZ)(hf:gH w o hs) :
  Calls prog 11 #[.agg o.cells.toArray] w fun e w'=>e=.returned (.tuple #[.int .i64 ((cJ (o.dS hs)).1:Nat),.bool (cJ (o.dS hs)).2])/\Fr aR w w':=by
 obtain⟨ah,ch,gV⟩:=hf.gX;obtain⟨w2,eB⟩:∃w2,w2=w.alloc (.cells o.cells.toArray 41):=⟨_,rfl⟩;have dy:Fr aR w w2:=by rw[eB];exact(ae aR w).alloc _
 have k1:w2.heap[w.heap.size]?=some (.cells o.cells.toArray 41 (0,0)):=by rw[eB];exact aB _ _
 have tP:=O (lA o hs w2 (hf.dh dy));obtain⟨a0,a1,a2,a3,a4,a5,a6,a7,a8,a9,jI,jJ,a12,jH,jK,jr,jY,jZ,j5,kf,a20,a21⟩:=eh k1 gV;have mP:=O k1;have lS:=O gV;have fO:=O dy;rw[eB]at a0 a1 a2 a3 a4 a5 a6 a7 a8 a9 jI jJ a12 jH jK jr jY jZ j5 kf a20 a21;rw[eA gV]at eB tP a0 a1 a2 a3 a4 a5 a6 a7 a8 a9 jI jJ a12 jH jK jr jY jZ j5 kf a20 a21 ⊢;have nJ:=O eB;clear eB gV dy k1 hf;go_enter func11,ntmps11
 have vS:=O (aB w (.cells #[.int .i64 o.what,.int .i64 o.aL.part,.bool o.aL.dm.aF,.string o.aL.dm.host,.int .i64 o.aL.dm.port,.bool o.aL.o.aF,.string o.aL.o.host,.int .i64 o.aL.o.port,.string o.aL.path,.string o.aL.query,.string o.aL.method,.slice ah hs.length ch,.bool o.aL.fU,.string o.aL.body,.bool o.proxy,.string o.text,.string o.user,.string o.pass,.string o.bP,.int .i64 o.cert,.bool o.all,.int .i64 o.n] 41))
 go_wp2_with (first|((with_reducible refine cY 4 ?_);refine aH rfl 41 (.tmp 1) rfl w.heap.size rfl _ #[.int .i64 o.what,.int .i64 o.aL.part,.bool o.aL.dm.aF,.string o.aL.dm.host,.int .i64 o.aL.dm.port,.bool o.aL.o.aF,.string o.aL.o.host,.int .i64 o.aL.o.port,.string o.aL.path,.string o.aL.query,.string o.aL.method,.slice ah hs.length ch,.bool o.aL.fU,.string o.aL.body,.bool o.proxy,.string o.text,.string o.user,.string o.pass,.string o.bP,.int .i64 o.cert,.bool o.all,.int .i64 o.n] (0,0) _ vS.o underlying41 rfl af ?_)|fail)
 rw[<-nJ.o];refine tP.o.mono ?_;rintro e u⟨rfl,hu⟩;clear a0 a1 a2 a3 a4 a5 a6 a7 a8 a9 jI jJ a12 jH jK jr jY jZ j5 kf a20 a21 tP;obtain⟨a0,a1,a2,a3,a4,a5,a6,a7,a8,a9,jI,jJ,a12,jH,jK,jr,jY,jZ,j5,kf,a20,a21⟩:=eh (hu.keep mP.o id) lS.o;have HU:=O (fO.o.trans hu);clear hu;cases hr:(o.dS hs).right
 ·have HC:=O (show cJ (o.dS hs)=(0,false)by unfold cJ;rw[hr];rfl);clear hr;go_wp2;go_ret2;rw[HC.o];exact⟨rfl,HU.o⟩
 ·have Xc:=hr;unfold iz.right at Xc;simp only[cD,dD]at Xc;have oB:1<=o.what:=Xc.1;have aqf:o.what<=10:=Xc.2.1;clear Xc;have HC:=O (show cJ (o.dS hs)=if o.what=1\/o.what=2\/o.what=3\/o.what=8 then(1,true)else if o.what=4 then(10,false)else if o.what=5 then(10,true)else if o.what=6 then(4,false)else if o.what=7 then(4,true)else if o.what=10 then(8,true)else(7,true)by unfold cJ;rw[hr];rfl);clear hr
  have hq:o.what=1\/o.what=2\/o.what=3\/o.what=4\/o.what=5\/o.what=6\/o.what=7\/o.what=8\/o.what=9\/o.what=10:=ab;clear oB aqf;rcases hq with hq|hq|hq|hq|hq|hq|hq|hq|hq|hq
  ·as_aux_lemma =>
    rw[hq]at a0 HC;have xr:=O (HC.o.trans (by first|rfl|decide));clear HC;have HQ:=O hq;clear hq;go_wp2;go_ret2;rw[xr.o];exact⟨rfl,HU.o⟩
  ·as_aux_lemma =>
    rw[hq]at a0 HC;have xr:=O (HC.o.trans (by first|rfl|decide));clear HC;have HQ:=O hq;clear hq;go_wp2;go_ret2;rw[xr.o];exact⟨rfl,HU.o⟩
  ·as_aux_lemma =>
    rw[hq]at a0 HC;have xr:=O (HC.o.trans (by first|rfl|decide));clear HC;have HQ:=O hq;clear hq;go_wp2;go_ret2;rw[xr.o];exact⟨rfl,HU.o⟩
  ·as_aux_lemma =>
    rw[hq]at a0 HC;have xr:=O (HC.o.trans (by first|rfl|decide));clear HC;have HQ:=O hq;clear hq;go_wp2;go_ret2;rw[xr.o];exact⟨rfl,HU.o⟩
  ·as_aux_lemma =>
    rw[hq]at a0 HC;have xr:=O (HC.o.trans (by first|rfl|decide));clear HC;have HQ:=O hq;clear hq;go_wp2;go_ret2;rw[xr.o];exact⟨rfl,HU.o⟩
  ·as_aux_lemma =>
    rw[hq]at a0 HC;have xr:=O (HC.o.trans (by first|rfl|decide));clear HC;have HQ:=O hq;clear hq;go_wp2;go_ret2;rw[xr.o];exact⟨rfl,HU.o⟩
  ·as_aux_lemma =>
    rw[hq]at a0 HC;have xr:=O (HC.o.trans (by first|rfl|decide));clear HC;have HQ:=O hq;clear hq;go_wp2;go_ret2;rw[xr.o];exact⟨rfl,HU.o⟩
  ·as_aux_lemma =>
    rw[hq]at a0 HC;have xr:=O (HC.o.trans (by first|rfl|decide));clear HC;have HQ:=O hq;clear hq;go_wp2;go_ret2;rw[xr.o];exact⟨rfl,HU.o⟩
  ·as_aux_lemma =>
    rw[hq]at a0 HC;have xr:=O (HC.o.trans (by first|rfl|decide));clear HC;have HQ:=O hq;clear hq;go_wp2;go_ret2;rw[xr.o];exact⟨rfl,HU.o⟩
  ·as_aux_lemma =>
    rw[hq]at a0 HC;have xr:=O (HC.o.trans (by first|rfl|decide));clear HC;have HQ:=O hq;clear hq;go_wp2;go_ret2;rw[xr.o];exact⟨rfl,HU.o⟩
