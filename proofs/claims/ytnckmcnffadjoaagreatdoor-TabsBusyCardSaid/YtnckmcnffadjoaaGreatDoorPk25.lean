/- Lemmas for the law's walk. -/
import Derived.Test.YtnckmcnffadjoaaGreatDoorPk24
import Derived.Deep.Onto
set_option maxRecDepth 100000
set_option maxHeartbeats 16000000
set_option linter.unusedSimpArgs false
namespace Go.Proofs.YtnckmcnffadjoaaGreatDoor
open Go.Proofs.Tryz
open Go.RowKit
variable {n k b b' base:Nat} {w W:World} {v:Value} {xs:List (List Value)} {hs:List gZ} {x:dx}
theorem yf{P:Program}{ops:Array Oper}{rest:List Oper}{o:Oper}{a:Act}{w:World}{Q:Exit->Act->World->Prop}(hg:o.guard=none)(t e:TypeId)(len:Nat)(parts:Array (Nat×Operand))(ho:o.op=.buildSlice t len parts)(dst:Option Tmp)(Ph:o.dst=dst)
  (cells:Array Value)(ie:TypeInfo)(z:Value)(vs:List (Nat×Value))(he:(parts.map fun(i,x)=>(i,a.eval x)).toList=vs)
  (hu:P.underlying t=some (.slice e))(hie:P.info? e=some ie)(hz:ie.zero=some z)(Ik:¬len*ie.size>2^24)(qh:¬len*ie.size=0)
  (hf:Instr.fill (fun i=>some (i*ie.size,ie.size)) ((Array.range (len*ie.size)).map (z.cells[· %z.cells.size]!)) vs=some cells)(N:Nat)(hN:w.heap.size=N)
  (h:wpList P ops Q rest (a.put dst (.slice (some ⟨N,0,none⟩) len len)) (w.alloc (.cells cells e))):wpList P ops Q (o :: rest) a w:=by
 subst Ph hN;exact wpList_buildSlice hg t e len parts ho cells ie z hu hie hz Ik qh (by rw[he];exact hf) h
theorem XI:(prog.info? 41).map (fun i=>(i.zero,i.size,i.bytes))=some (some (.agg zOp),22,272):=af
theorem afS(o:jG)(ah:Option Addr)(nh ch:Nat):Instr.fill (fun i=>some (i*22,22)) ((Array.range (1*22)).map ((Value.agg zOp).cells[· %(Value.agg zOp).cells.size]!)) [(0,.agg #[.int .i64 o.what,.int .i64 o.aL.part,.bool o.aL.dm.aF,.string o.aL.dm.host,.int .i64 o.aL.dm.port,.bool o.aL.o.aF,.string o.aL.o.host,.int .i64 o.aL.o.port,.string o.aL.path,.string o.aL.query,.string o.aL.method,.slice ah nh ch,.bool o.aL.fU,.string o.aL.body,.bool o.proxy,.string o.text,.string o.user,.string o.pass,.string o.bP,.int .i64 o.cert,.bool o.all,.int .i64 o.n])]=some #[.int .i64 o.what,.int .i64 o.aL.part,.bool o.aL.dm.aF,.string o.aL.dm.host,.int .i64 o.aL.dm.port,.bool o.aL.o.aF,.string o.aL.o.host,.int .i64 o.aL.o.port,.string o.aL.path,.string o.aL.query,.string o.aL.method,.slice ah nh ch,.bool o.aL.fU,.string o.aL.body,.bool o.proxy,.string o.text,.string o.user,.string o.pass,.string o.bP,.int .i64 o.cert,.bool o.all,.int .i64 o.n]:=af
theorem afT(o:jG){ah:Option Addr}{ch:Nat}(hh:o.aL.eo=.slice ah n ch):∀u∈o.cells,u.oneCell'=true:=by
 unfold jG.cells gq.cells;rw[hh];intro u hu;simp only[List.cons_append,List.nil_append,bB,cq,dU]at hu;rcases hu with rfl|rfl|rfl|rfl|rfl|rfl|rfl|rfl|rfl|rfl|rfl|rfl|rfl|rfl|rfl|rfl|rfl|rfl|rfl|rfl|rfl|rfl<;>rfl
def sq(o:jG×List gZ):Bool:=!ov o.1.aL o.2||decide ((900:Int)<(o.1.aL.body.size:Int)+(o.1.text.size:Int)+(o.1.user.size:Int)+(o.1.pass.size:Int)+(o.1.bP.size:Int))
def Fb(os:List (jG×List gZ)):Bool:=decide (os.length<=30)&&!(os.any sq)
theorem dV.det{ys:List (List Value)}(h:dV k w v xs)(h':dV k w v ys):xs=ys:=by
 obtain⟨o1,h1⟩:=h;obtain⟨o2,h2⟩:=h';rcases h1 with ⟨a,c,hv,hs,_⟩|⟨bk,o,c,hv,_,_,_,h4⟩<;>rcases h2 with ⟨a',c',sH,SH,_⟩|⟨IM,o',c',sH,_,_,_,h4'⟩
 ·rw[hs,SH]
 ·rw[hv]at sH;injection sH with _ e _
  rw[hs];exact(dF.1 e.symm).symm
 ·rw[hv]at sH;injection sH with _ e _
  rw[SH];exact dF.1 e
 ·rw[hv]at sH;injection sH with ea e _
  injection ea with ea
  injection ea with e1 e2
  subst e1 e2;refine List.ext_getElem e (fun j hj hj'=>?_);have lx:=(o1 _ (bL hj)).1;have ly:=(o2 _ (bL hj')).1;refine List.ext_getElem (lx.trans ly.symm) (fun i hi hi'=>?_);have q:=h4 j _ (List.getElem?_eq_getElem hj) i _ (List.getElem?_eq_getElem hi);have q':=h4' j _ (List.getElem?_eq_getElem hj') i _ (List.getElem?_eq_getElem hi');rw[q]at q';injection q'
theorem XN{SH:List gZ}(h:hs.map gZ.cells=SH.map gZ.cells):hs=SH:=by
 have:=ar (List.map QP) h;rw[im,im]at this;have e:∀l:List gZ,l.map (QP ∘ gZ.cells)=l:=fun l=>by
  induction l with
  |nil=>rfl
  |cons p l ih=>rw[cA,ih];rfl
 rw[e,e]at this;exact this
theorem jG.Tn{o o':jG}(h:o.cells=o'.cells):o=o':=by
 obtain⟨a,⟨b,⟨c1,c2,c3⟩,⟨d1,d2,d3⟩,e1,e2,e3,e4,e5,e6⟩,f,g,h1,h2,i,j,k,l⟩:=o;obtain⟨a',⟨b',⟨c1',c2',c3'⟩,⟨d1',d2',d3'⟩,e1',e2',e3',e4',e5',e6'⟩,f',g',IQ,h2',i',j',k',l'⟩:=o';simp only[jG.cells,gq.cells,List.cons_append,List.nil_append,fE,Value.bool.injEq,Value.string.injEq,Value.int.injEq,true_and,iL]at h
 obtain⟨rfl,rfl,rfl,rfl,rfl,rfl,rfl,rfl,rfl,rfl,rfl,rfl,rfl,rfl,rfl,rfl,rfl,rfl,rfl,rfl,rfl,rfl⟩:=h;rfl
theorem XO{o o':jG×List gZ}(h:vE w o.1 o.2)(h':vE w o'.1 o'.2)(e:o.1.cells=o'.1.cells):o=o':=by
 have e1:=jG.Tn e;have h2:=h'.aL.eo;rw[<-e1]at h2;have e2:=XN (h.aL.eo.det h2);exact Prod.ext e1 e2
theorem Tp(o:jG)(hs:List gZ)(w:World)(h:vE w o hs) :
  Calls prog 40 #[.agg o.cells.toArray] w fun e w'=>e=.returned (.bool (sq (o,hs)))/\Fr aR w w':=by
 obtain⟨⟨hh,hl,pk,hz,hbd,_,_,_⟩,ak1,ak2,ak3,zcn,_,_,_⟩:=h;obtain⟨wb,j_⟩:∃wb,wb=w.alloc (.cells o.cells.toArray 41):=⟨_,rfl⟩;have ks:Fr aR w wb:=by rw[j_];exact(ae aR w).alloc _
 have mf:wb.heap[w.heap.size]?=some (.cells o.cells.toArray 41 (0,0)):=by rw[j_];exact aB _ _
 obtain⟨ah,ch,gV⟩:=dQ hh;rw[ai]at gV;have HC:=O (show∀U,Fr aR wb U->U.cell? ⟨w.heap.size,13,none⟩=some (.string o.aL.body)/\U.cell? ⟨w.heap.size,15,none⟩=some (.string o.text)/\U.cell? ⟨w.heap.size,16,none⟩=some (.string o.user)/\U.cell? ⟨w.heap.size,17,none⟩=some (.string o.pass)/\U.cell? ⟨w.heap.size,18,none⟩=some (.string o.bP)from fun U hU=>by
  obtain⟨a0,a1,a2,a3,a4,a5,a6,a7,a8,a9,jI,jJ,a12,jH,jK,jr,jY,jZ,j5,kf,a20,a21⟩:=eh (hU.keep mf id) gV;exact⟨jH,jr,jY,jZ,j5⟩)
 have Yp:=O (JG o.aL hs wb (bg hh ks) hl pk hz);obtain⟨a0,a1,a2,a3,a4,a5,a6,a7,a8,a9,jI,jJ,a12,jH,jK,jr,jY,jZ,j5,kf,a20,a21⟩:=eh mf gV;rw[j_]at a1 a2 a3 a4 a5 a6 a7 a8 a9 jI jJ a12 jH;rw[eA gV]at j_ a1 a2 a3 a4 a5 a6 a7 a8 a9 jI jJ a12 jH ⊢;rw[Al gV]at Yp;have mr:=O ks;have qY:=O j_;clear hh hl pk hz ks mf gV j_ a0 jK jr jY jZ j5 kf a20 a21;cases hrf:ov o.aL hs
 ·have HR:=O (show sq (o,hs)=true by unfold sq;simp only;rw[hrf];rfl);rw[hrf]at Yp;clear hrf;go_enter func40,ntmps40;go_wp2_with fail
  rw[<-qY.o];refine Yp.o.mono ?_;rintro e u⟨rfl,hf⟩;clear a1 a2 a3 a4 a5 a6 a7 a8 a9 jI jJ a12 jH;go_wp2;go_ret;exact⟨by rw[HR.o];rfl,mr.o.trans hf⟩
 ·have HR:=O (show sq (o,hs)=decide ((900:Int)<(o.aL.body.size:Int)+(o.text.size:Int)+(o.user.size:Int)+(o.pass.size:Int)+(o.bP.size:Int))by unfold sq;simp only;rw[hrf];rfl);rw[hrf]at Yp;clear hrf;go_enter func40,ntmps40;go_wp2_with fail
  rw[<-qY.o];refine Yp.o.mono ?_;rintro e u⟨rfl,hf⟩;clear a1 a2 a3 a4 a5 a6 a7 a8 a9 jI jJ a12 jH;obtain⟨b13,b15,b16,b17,b18⟩:=HC.o u hf;go_wp2;go_ret;exact⟨by rw[HR.o];rfl,mr.o.trans hf⟩
theorem XP(v:Value)(os:List (jG×List gZ))(w:World)(h:JA w v os) :
  Calls prog 17 #[v] w fun e w'=>e=.returned (.bool (Fb os))/\Fr aR w w':=by
 classical
 obtain⟨hv,hl,ha⟩:=h;obtain⟨av,cv,fI⟩:=hv.form;rw[ai]at fI;subst fI;obtain⟨p,hp⟩:∃p:List Value->Bool,∀o∈os,p o.1.cells=sq o:=⟨fun x=>decide (∃o∈os,o.1.cells=x/\sq o=true),fun o ho=>by
  cases hq:sq o
  ·refine bh (fun⟨o',Fj,e,Hk⟩=>?_);rw[XO (ha o' Fj) (ha o ho) e,hq]at Hk;cases Hk
  ·exact bf ⟨o,ho,rfl,hq⟩⟩
 have M5:=O (CJ _ #[] p _ _ w call40 (fun x hx u hu=>by
  obtain⟨o,ho,rfl⟩:=bV.1 hx;rw[hp o ho];have h:=ha o ho;have h':vE u o.1 o.2:={h with aL:={h.aL with eo:=bg h.aL.eo hu}};simpa using Tp o.1 o.2 u h') hv)
 have jn:=O (show(os.map fun o=>o.1.cells).any p=os.any sq by
  rw[List.any_map];clear M5 hv hl
  induction os with
  |nil=>rfl
  |cons o os ih =>
   rw[List.any_cons,List.any_cons,ih (fun x hx=>ha x (bN _ hx)) (fun x hx=>hp x (bN _ hx))];show(p o.1.cells||_)=_;rw[hp o (cQ ..)])
 clear hp ha hv;by_cases h30:os.length<=30
 ·have hb:=O (show Fb os=!(os.any sq)by unfold Fb;rw[bf h30];rfl);have i30:(os.length:Int)<=30:=ab;have d30:decide ((os.length:Int)<=30)=true:=bf i30;go_enter func17,ntmps17;go_wp2_with fail
  refine M5.o.mono ?_;rw[jn.o];rintro e u⟨rfl,hf⟩;go_wp2;go_ret;exact⟨fx hb.o.symm,hf⟩
 ·have hb:=O (show Fb os=false by unfold Fb;rw[bh h30];rfl);have i30:¬(os.length:Int)<=30:=ab;have d30:decide ((os.length:Int)<=30)=false:=bh i30;go_enter func17,ntmps17;go_wp2;go_ret;exact⟨fx hb.o.symm,ae _ _⟩
theorem gH.aqN{o:jG}(h:vE w o hs)(hb:sq (o,hs)=false):gH w o hs:=by
 obtain⟨⟨hh,hl,pk,hz,hbd,z1,z2,z3⟩,ak1,ak2,ak3,zcn,y1,y2,y3⟩:=h;unfold sq at hb;simp only[eJ,Bool.not_eq_false',decide_eq_false_iff_not]at hb;obtain⟨h1,h2⟩:=hb;have hq:=h1;unfold ov at hq;simp only[cD,dD]at hq;obtain⟨hf,hq⟩:=hq;have b1:=Go.bounds_i64 z1;have b2:=Go.bounds_i64 z2;have b3:=Go.bounds_i64 z3;have b4:=Go.bounds_i64 y1;have b5:=Go.bounds_i64 y2;have b6:=Go.bounds_i64 y3;unfold MN at hf
 simp only[cD,dD,Bool.not_eq_true',eW]at hf;exact⟨hh,⟨ab,ab,fun p hp=>by
  have:=hf.2 p hp;unfold Tm at this;rw[dD]at this;omega⟩,ab,ab,ab,ab,ab,ab,ab,ab,ab,ab,b2,b3,b1,b4,b5,b6⟩
theorem V8{P G:Nat->Array Value->World->Prop}{T:Prop}(main:(∀a b c,P a b c->G a b c)->T)(rest:∀a b c,P a b c->G a b c):T:=main rest
def tu(base:Nat)(a:World)(B off:Nat)(cs:List Value)(v:cU)(p:dM)(n:Nat)(X:Array Value)(t:TypeId)(W:World):Prop :=
 ∃v',eP base W v' p/\Fr (Ak B v) a W/\(∀k,v'.ke k->v.ke k\/a.heap.size<=k)/\W.heap[B]?=some (.cells (po cs off v').toArray 86 (0,0))/\W.heap[n]?=some (.cells X t (0,0))/\¬v'.ke n/\a.heap.size<=n
section
variable {base B off n : Nat} {a w3 u : World} {cs : List Value} {v : cU} {p p0 : dM} {z : Array Value} {t : TypeId}
theorem tu.core{v':cU}(h1:eP base u v' p)(h2:Fr (Ak B v) a u)(h3:∀k,v'.ke k->v.ke k\/a.heap.size<=k)(h4:u.heap[B]?=some (.cells (po cs off v').toArray 86 (0,0)))(hn:u.heap[n]?=some (.cells z t (0,0)))(hf:¬v'.ke n)(V9:a.heap.size<=n)(oF:base<=a.heap.size)(hB:B<a.heap.size)(hs:t≠9)(X:Array Value) :
  tu base a B off cs v p n X t (u.setRow n X)/\∀vv ss,dr base u vv ss->dr base (u.setRow n X) vv ss:=by
 have kJ:Fr (one n) u (u.setRow n X):=(ae (one n) u).setRow (fun _=>rfl) _;have mU:sr base u (one n):=by
  rintro k rfl _;exact⟨ab,fun c f e=>by rw[hn]at e;cases e;exact hs rfl⟩
 refine⟨⟨v',h1.fr kJ mU (fun i hi e=>?_),h2.step kJ (fun k hk e=>?_),h3,kJ.keep h4 (fun e=>?_),kS hn,hf,V9⟩,fun vv ss h=>h.fr kJ mU⟩
 ·have e':i=n:=e;subst e';exact hf hi
 ·have e':k=n:=e;omega
 ·have e':B=n:=e;omega
theorem tu.after(h:di base a B cs off v p u)(oF:base<=a.heap.size)(hB:B<a.heap.size)(hs:t≠9)(z X:Array Value) :
  tu base a B off cs v p u.heap.size X t ((u.alloc (.cells z t)).setRow u.heap.size X)/\∀vv ss,dr base u vv ss->dr base ((u.alloc (.cells z t)).setRow u.heap.size X) vv ss:=by
 obtain⟨v',h1,h2,h3,h4⟩:=h;have gS:Fr aR u (u.alloc (.cells z t)):=(ae aR u).alloc _;obtain⟨g1,g2⟩:=tu.core (h1.dh gS) (h2.alloc _) h3 (gS.keep h4 id) (aB _ _) (fun hf=>by have:=h1.jh hf;omega) h2.size oF hB hs X;exact⟨g1,fun vv ss hv=>g2 vv ss (hv.dh gS)⟩
theorem tu.before(h0:eP base a v p0)(f3:Fr aR a w3)(V9:a.heap.size<=n)(hn:w3.heap[n]?=some (.cells z t (0,0)))(h:di base w3 B cs off v p u)(oF:base<=a.heap.size)(hB:B<a.heap.size)(hs:t≠9)(X:Array Value) :
  tu base a B off cs v p n X t (u.setRow n X)/\∀vv ss,dr base u vv ss->dr base (u.setRow n X) vv ss:=by
 obtain⟨v',h1,h2,h3,h4⟩:=h;have hv:¬v.ke n:=fun hf=>by have:=h0.jh hf;omega
 have hl:=bj hn;refine tu.core h1 (fX (S:=Ak B v) (f3.mono (fun _ _ h=>absurd h id)) h2 (fun _ _ h=>h)) (fun k hk=>?_) h4 (h2.keep hn (fun e=>?_)) (fun hf=>?_) V9 oF hB hs X
 ·rcases h3 k hk with h|h
  ·exact Or.inl h
  ·exact Or.inr (aD f3.size h)
 ·rcases e with e|e
  ·omega
  ·exact hv e
 ·rcases h3 n hf with h|h
  ·exact hv h
  ·omega
end
theorem OwnRows.mono{e:TypeId}(h:OwnRows b e k w v xs)(hb:b'<=b):OwnRows b' e k w v xs:=⟨h.1,World.ownsRow.mono h.2 hb⟩
theorem eO.mono{ps:List ef}(h:eO b w n v ps)(hb:b'<=b):eO b' w n v ps:=⟨aD hb h.low,h.eI,OwnRows.mono h.rows hb⟩
def cpP(qv:Nat->cU)(k i:Nat):List Value:=if i<k then(qv i).cells else [.pointer none,.pointer none,.slice none 0 0]
def cpC(qv:Nat->cU)(now:Int)(k:Nat):List Value:=cpP qv k 0++(cpP qv k 1++(cpP qv k 2++(cpP qv k 3++[.int .i64 now])))
theorem WA(qv:Nat->cU)(now:Int)(hk:k<4)(v:cU):po (cpC qv now k) (k*3) v=cpC (yO qv k v) now (k+1):=by
 unfold po cpC cpP yO cU.cells
 match k,hk with
 |0,_=>rfl
 |1,_=>rfl
 |2,_=>rfl
 |3,_=>rfl
theorem ae5(qv:Nat->cU)(now:Int)(hk:k<4):(cpC qv now k)[k*3]?=some (.pointer none)/\(cpC qv now k)[k*3+1]?=some (.pointer none)/\(cpC qv now k)[k*3+2]?=some (.slice none 0 0):=by
 unfold cpC cpP
 match k,hk with
 |0,_=>exact⟨rfl,rfl,rfl⟩
 |1,_=>exact⟨rfl,rfl,rfl⟩
 |2,_=>exact⟨rfl,rfl,rfl⟩
 |3,_=>exact⟨rfl,rfl,rfl⟩
structure L' (base:Nat) (w:World) (x:dx) (k:Nat) (qv:Nat->cU) (W:World):Prop where
 fr:Fr aR w W
 eI:W.heap[w.heap.size]?=some (.cells (cpC qv x.now k).toArray 86 (0,0))
 part:∀i,i<k->eP base W (qv i) (x.part i)
 new:∀i,i<k->∀j,(qv i).ke j->w.heap.size<j
 apart:∀i j,i<k->j<k->i≠j->∀n,(qv i).ke n->¬(qv j).ke n
theorem L'.step{U:World}{qv:Nat->cU}(h:L' base w x k qv W)(hb:base<=w.heap.size)(hk:k<4)(hU:Fr aR W U){v:cU}(hp:eP base U v (x.part k))(hn:∀j,v.ke j->W.heap.size<=j) :
  L' base w x (k+1) (yO qv k v) (((U.setCell ⟨w.heap.size,k*3,none⟩ (.pointer (some ⟨v.b,0,none⟩))).setCell ⟨w.heap.size,k*3+1,none⟩ (.pointer (some ⟨v.k,0,none⟩))).setCell ⟨w.heap.size,k*3+2,none⟩ v.cv):=by
 have hN:w.heap.size<W.heap.size:=bj h.eI;have qe:=hU.keep h.eI id;have Fl:Fr (one w.heap.size) U (((U.setCell ⟨w.heap.size,k*3,none⟩ (.pointer (some ⟨v.b,0,none⟩))).setCell ⟨w.heap.size,k*3+1,none⟩ (.pointer (some ⟨v.k,0,none⟩))).setCell ⟨w.heap.size,k*3+2,none⟩ v.cv) :=
  (((ae (one w.heap.size) U).setCell (p:=⟨w.heap.size,k*3,none⟩) (fun _=>rfl) _).setCell (p:=⟨w.heap.size,k*3+1,none⟩) (fun _=>rfl) _).setCell (p:=⟨w.heap.size,k*3+2,none⟩) (fun _=>rfl) _
 have mU:sr base U (one w.heap.size):=by
  rintro j rfl _;exact⟨hb,fun c f e=>by rw[qe]at e;cases e⟩
 have e1:=b_ qe (k*3) (.pointer (some ⟨v.b,0,none⟩));have e2:=b_ e1 (k*3+1) (.pointer (some ⟨v.k,0,none⟩));have e3:=b_ e2 (k*3+2) v.cv;have old:∀i,i<k->∀j,(qv i).ke j->j<W.heap.size:=fun i hi j hj=>(h.part i hi).jh hj
 refine⟨(((h.fr.trans hU).gI (p:=⟨w.heap.size,k*3,none⟩) (ay _) _).gI (p:=⟨w.heap.size,k*3+1,none⟩) (ay _) _).gI (p:=⟨w.heap.size,k*3+2,none⟩) (ay _) _,?_,fun i hi=>?_,fun i hi j hj=>?_,fun i j hi hj Q8 n JS CX=>?_⟩
 ·rw[e3, <-WA qv x.now hk v];unfold po;simp
 ·by_cases MW:i=k
  ·subst MW;rw[tq];exact hp.fr Fl mU (fun j hj e=>by have e':j=w.heap.size:=e;have:=hn j hj;omega)
  ·rw[mI qv v MW];have ajQ:i<k:=ab;exact((h.part i ajQ).dh hU).fr Fl mU (fun j hj e=>by have e':j=w.heap.size:=e;have:=h.new i ajQ j hj;omega)
 ·by_cases MW:i=k
  ·subst MW;rw[tq]at hj;have:=hn j hj;omega
  ·rw[mI qv v MW]at hj;exact h.new i ab j hj
 ·by_cases MW:i=k
  ·subst MW;rw[tq]at JS;rw[mI qv v (kY Q8)]at CX;have a1:=hn n JS;have a2:=old j ab n CX;omega
  ·rw[mI qv v MW]at JS;by_cases hjk:j=k
   ·subst hjk;rw[tq]at CX;have a1:=hn n CX;have a2:=old i ab n JS;omega
   ·rw[mI qv v hjk]at CX;exact h.apart i j ab ab Q8 n JS CX
theorem L'.done{qv:Nat->cU}(h:L' base w x 4 qv W)(hb:base<=w.heap.size):cz base W w.heap.size qv x :=
 ⟨hb,h.eI,h.part,h.apart⟩
def ajR(base:Nat)(w:World)(x:dx)(t:Value)(wr:World):Prop:=∃(k:Nat) (qv:Nat->cU),k<=4/\t=.int .i64 k/\L' base w x k qv wr
def Hh(base:Nat)(w:World)(x:dx)(e:Ending)(w':World):Prop :=
 ∃B qv,e=.returned (.pointer (some ⟨B,0,none⟩))/\cz base w' B qv x/\Fr aR w w'/\∀j,lz B qv j->w.heap.size<=j
theorem BA(base:Nat)(w:World)(B:Nat)(pv:Nat->cU)(x:dx)(h:cz base w B pv x)(hs:∀i,i<4->(x.part i).bF.length<68719476736/\(x.part i).waits.length<68719476736/\(x.part i).book.length<1000000/\(x.part i).dE.length<=1000000) :
  Calls prog 38 #[.pointer (some ⟨B,0,none⟩)] w (Hh base w x):=by
 have hb:base<=w.heap.size:=aD h.low (Nat.le_of_lt h.lt);obtain⟨x1,mO⟩:∃x1,x1=w.alloc (.cells #[.pointer none,.pointer none,.slice none 0 0,.pointer none,.pointer none,.slice none 0 0,.pointer none,.pointer none,.slice none 0 0,.pointer none,.pointer none,.slice none 0 0,.int .i64 x.now] 86):=⟨_,rfl⟩;have df:Fr aR w x1:=by rw[mO];exact(ae _ _).alloc _
 have h0:L' base w x 0 pv x1:=⟨df,by rw[mO];exact aB _ _,fun i hi=>absurd hi (bS i),fun i hi=>absurd hi (bS i),fun i j hi=>absurd hi (bS i)⟩;have H0:=O h0;have HW:=O h;have HB:=O hb;have HS:=O hs;have qe:=h.eI;have r_:=df.keep h.eI id;unfold iP cU.cells at qe r_;simp only[List.cons_append,List.nil_append]at qe r_
 have aaI:w.cell? ⟨B,12,none⟩=some (.int .i64 x.now):=by simp only[World.cell?,qe];rfl
 have c0:x1.cell? ⟨B,0,none⟩=some (.pointer (some ⟨(pv 0).b,0,none⟩)):=by simp only[World.cell?,r_];rfl
 have c1:x1.cell? ⟨B,1,none⟩=some (.pointer (some ⟨(pv 0).k,0,none⟩)):=by simp only[World.cell?,r_];rfl
 have c2:x1.cell? ⟨B,2,none⟩=some ((pv 0).cv):=by simp only[World.cell?,r_];rfl
 have c3:x1.cell? ⟨B,3,none⟩=some (.pointer (some ⟨(pv 1).b,0,none⟩)):=by simp only[World.cell?,r_];rfl
 have c4:x1.cell? ⟨B,4,none⟩=some (.pointer (some ⟨(pv 1).k,0,none⟩)):=by simp only[World.cell?,r_];rfl
 have c5:x1.cell? ⟨B,5,none⟩=some ((pv 1).cv):=by simp only[World.cell?,r_];rfl
 have c6:x1.cell? ⟨B,6,none⟩=some (.pointer (some ⟨(pv 2).b,0,none⟩)):=by simp only[World.cell?,r_];rfl
 have c7:x1.cell? ⟨B,7,none⟩=some (.pointer (some ⟨(pv 2).k,0,none⟩)):=by simp only[World.cell?,r_];rfl
 have c8:x1.cell? ⟨B,8,none⟩=some ((pv 2).cv):=by simp only[World.cell?,r_];rfl
 have c9:x1.cell? ⟨B,9,none⟩=some (.pointer (some ⟨(pv 3).b,0,none⟩)):=by simp only[World.cell?,r_];rfl
 have G1:x1.cell? ⟨B,10,none⟩=some (.pointer (some ⟨(pv 3).k,0,none⟩)):=by simp only[World.cell?,r_];rfl
 have TP:x1.cell? ⟨B,11,none⟩=some ((pv 3).cv):=by simp only[World.cell?,r_];rfl
 have ZL:=O (show∀k:Nat,k<4->∀u,Sem.run prog (Instr.index 84 (.agg #[.pointer (some ⟨(pv 0).b,0,none⟩),.pointer (some ⟨(pv 0).k,0,none⟩),(pv 0).cv,.pointer (some ⟨(pv 1).b,0,none⟩),.pointer (some ⟨(pv 1).k,0,none⟩),(pv 1).cv,.pointer (some ⟨(pv 2).b,0,none⟩),.pointer (some ⟨(pv 2).k,0,none⟩),(pv 2).cv,.pointer (some ⟨(pv 3).b,0,none⟩),.pointer (some ⟨(pv 3).k,0,none⟩),(pv 3).cv]) (.int .i64 k)) u=.ok (.agg #[.pointer (some ⟨(pv k).b,0,none⟩),.pointer (some ⟨(pv k).k,0,none⟩),(pv k).cv]) u from fun k hk u=>by
  rcases(show k=0\/k=1\/k=2\/k=3 from ab)with rfl|rfl|rfl|rfl
  ·kernel_rfl
  ·kernel_rfl
  ·kernel_rfl
  ·kernel_rfl)
 have M4:=O mO;rw[mO]at c0 c1 c2 c3 c4 c5 c6 c7 c8 c9 G1 TP;clear h0 h hb hs qe r_ mO df;go_enter func38,ntmps38;go_wp2_with fail
 rw[<-M4.o];clear c0 c1 c2 c3 c4 c5 c6 c7 c8 c9 G1 TP aaI;go_loopw[16] (ajR base w x) (fun i _=>4-(intOf i).toNat)
 case atStart=>exact⟨0,pv,aI _,rfl,H0.o⟩
 case round =>
  obtain⟨k,qv,hk,rfl,hcp⟩:=hrel;by_cases eX:k<4
  ·have py:(k:Int)<4:=ab;have Om:¬(k:Int)<0:=ab;have aps:(0:Int)<=(k:Int):=ab;have ae7:¬(4:Int)<=(k:Int):=ab;have xm:=ZL.o k eX;have TW:=O hcp;have HKS:=O eX;obtain⟨cvk,apt⟩:∃c,c=(pv k).cv:=⟨_,rfl⟩;obtain⟨ca,cc,M5⟩:=(HW.o.part k eX).dE.form;rw[ai]at M5;rw[M5]at xm
   obtain⟨y1,Fi⟩:∃y1,y1=wr.alloc (.cells #[.pointer (some ⟨(pv k).b,0,none⟩),.pointer (some ⟨(pv k).k,0,none⟩),.slice ca (x.part k).dE.length cc] 83):=⟨_,rfl⟩;have hfy:Fr aR wr y1:=by rw[Fi];exact(ae _ _).alloc _
   have qZ:y1.heap[wr.heap.size]?=some (.cells #[.pointer (some ⟨(pv k).b,0,none⟩),.pointer (some ⟨(pv k).k,0,none⟩),.slice ca (x.part k).dE.length cc] 83 (0,0)):=by rw[Fi];exact aB _ _
   have HWY:=O (HW.o.dh (hcp.fr.trans hfy));have HFY:=O hfy;have HBY:=O qZ;have Sy:=O Fi;have HCF:=O M5;have HC:=O (show∀U,Fr aR y1 U->(U.cell? ⟨wr.heap.size,0,none⟩=some (.pointer (some ⟨(pv k).b,0,none⟩))/\U.cell? ⟨wr.heap.size,1,none⟩=some (.pointer (some ⟨(pv k).k,0,none⟩))/\U.cell? ⟨wr.heap.size,2,none⟩=some (.slice ca (x.part k).dE.length cc))from fun U hU=>by
    have j:=hU.keep HBY.o id;refine⟨?_,?_,?_⟩<;>simp[World.cell?,j])
   have HKB:=O (show∀U,Fr aR y1 U->Calls prog 79 #[.pointer (some ⟨(pv k).b,0,none⟩)] U (Lw base U (x.part k).bF (x.part k).waits)from fun U hU=>VA base U (pv k).b (pv k).gv (pv k).wv (x.part k).bF (x.part k).waits ((HWY.o.dh hU).part k HKS.o).oC (HS.o k HKS.o).1 (HS.o k HKS.o).2.1)
   have HKK:=O (show∀U,Fr aR y1 U->Calls prog 80 #[.pointer (some ⟨(pv k).k,0,none⟩)] U fun e w'=>∃b' v',e=.returned (.pointer (some ⟨b',0,none⟩))/\eO U.heap.size w' b' v' (x.part k).book/\Fr aR U w' from fun U hU=>Jf base U (pv k).k (pv k).kv (x.part k).book ((HWY.o.dh hU).part k HKS.o).book (HS.o k HKS.o).2.2.1)
   have HKC:=O (show∀U,Fr aR y1 U->Calls prog 81 #[.slice ca (x.part k).dE.length cc] U fun e w'=>∃v',e=.returned v'/\OwnRows U.heap.size 97 4 w' v' ((x.part k).dE.map lo)/\Fr aR U w' from fun U hU=>by
    have hh:=((HWY.o.dh hU).part k HKS.o).dE.at;rw[HCF.o]at hh;exact QD _ _ U hh (by rw[ai];have:=(HS.o k HKS.o).2.2.2;omega))
   clear hcp hfy qZ Fi M5 apt cvk eX;go_wp2_with fail
   rw[<-Sy.o];refine wp_region_held_drew (S:=(fun U=>U.cell? ⟨wr.heap.size,0,none⟩=some (.pointer (some ⟨(pv k).b,0,none⟩))/\U.cell? ⟨wr.heap.size,1,none⟩=some (.pointer (some ⟨(pv k).k,0,none⟩))/\U.cell? ⟨wr.heap.size,2,none⟩=some (.slice ca (x.part k).dE.length cc))) af (HC.o _ (aA (ae _ _))) ?_;intro zc;refine tkN 0 20 rfl ?_
   refine tkN 1 21 rfl ?_
   refine tkN 2 22 rfl ?_
   refine tkN 3 23 rfl ?_
   refine tkN 5 25 rfl ?_
   refine tkN 6 26 rfl ?_
   refine tkN 8 28 rfl ?_
   refine tkN 9 29 rfl ?_
   refine tkN 12 32 rfl ?_
   refine tkN 13 33 rfl ?_
   refine eL 4 rfl fun K hK=>?_;go_simp;refine(HKB.o _ (aA (ae aR y1))).mono ?_;rintro e u1⟨kb,kg,kw,rfl,hb,hf,hn⟩;have k_:=O ((aA (ae aR y1)).trans hf);have JW:=O hf;have HGB:=O hb;have HGN:=O hn;clear hb hf hn;refine hK.out _ _ (HC.o _ k_.o) ?_;intro xz;clear hK zc K
   try simp only[Act.put,sA,sB,sC]
   refine eL 7 rfl fun K hK=>?_;go_simp;refine(HKK.o _ (k_.o)).mono ?_;rintro e u2⟨kk,kv,rfl,hb,hf⟩;have fO:=O ((k_.o).trans hf);have Yt:=O hf;have HGK:=O hb;clear hb hf;refine hK.out _ _ (HC.o _ fO.o) ?_;intro Am;clear hK xz K
   try simp only[Act.put,sA,sB,sC]
   refine eL 10 rfl fun K hK=>?_;go_simp;refine(HKC.o _ (fO.o)).mono ?_;rintro e u3⟨kc,rfl,hb,hf⟩;have ic:=O ((fO.o).trans hf);have HQ3:=O hf;have HGC:=O hb;obtain⟨na,nc,Ws⟩:=hb.form;rw[ai]at Ws;subst Ws;clear hb hf;refine hK.out _ _ (HC.o _ ic.o) ?_;intro FP;clear hK Am K
   try simp only[Act.put,sA,sB,sC]
   refine tkN 11 31 rfl ?_
   refine tkN 14 34 rfl ?_
   refine eL 15 rfl fun K hK=>?_;have jq:=TW.o.step HB.o HKS.o (HFY.o.trans ic.o) (v:=⟨kb,kg,kw,kk,kv,.slice na (x.part k).dE.length nc⟩) ⟨HGB.o.dh (Yt.o.trans HQ3.o),(eO.mono HGK.o (aD (aD HB.o TW.o.fr.size) (HFY.o.trans (k_.o)).size)).dh HQ3.o,OwnRows.fr (OwnRows.mono HGC.o (aD (aD HB.o TW.o.fr.size) (HFY.o.trans (fO.o)).size)) (ae _ _) (fun _ _ h=>h)⟩ (by
    rintro j(hj|hj|hj)
    ·exact aD (HFY.o.trans (aA (ae _ _))).size (HGN.o j hj)
    ·exact aD (HFY.o.trans (k_.o)).size (HGK.o.nD hj)
    ·exact aD (HFY.o.trans (fO.o)).size (HGC.o.block _ hj))
   have lH:=O jq;have tC:=ic.o.keep (HFY.o.keep TW.o.eI id) id;obtain⟨q0,q1,q2⟩:=ae5 qv x.now HKS.o;have c0:u3.cell? ⟨w.heap.size,k*3,none⟩=some (.pointer none):=by simp[World.cell?,tC,q0]
   have c1:u3.cell? ⟨w.heap.size,k*3+1,none⟩=some (.pointer none):=by simp[World.cell?,tC,q1]
   have c2:u3.cell? ⟨w.heap.size,k*3+2,none⟩=some (.slice none 0 0):=by simp[World.cell?,tC,q2]
   have f0:∀j,u3.frozen? ⟨w.heap.size,j,none⟩=false:=fun j=>by simp[World.frozen?,tC]
   have f1:=f0 (k*3);have f2:=f0 (k*3+1);have f3:=f0 (k*3+2);obtain⟨W9,hw9⟩:∃W9,W9=((u3.setCell ⟨w.heap.size,k*3,none⟩ (.pointer (some ⟨kb,0,none⟩))).setCell ⟨w.heap.size,k*3+1,none⟩ (.pointer (some ⟨kk,0,none⟩))).setCell ⟨w.heap.size,k*3+2,none⟩ (.slice na (x.part k).dE.length nc):=⟨_,rfl⟩
   have HS9:=O (show L' base w x (k+1) (yO qv k ⟨kb,kg,kw,kk,kv,.slice na (x.part k).dE.length nc⟩) W9 by rw[hw9];exact lH.o);have Fl:Fr (one w.heap.size) u3 W9:=by rw[hw9];exact(((ae (one w.heap.size) u3).setCell (p:=⟨w.heap.size,k*3,none⟩) (fun _=>rfl) _).setCell (p:=⟨w.heap.size,k*3+1,none⟩) (fun _=>rfl) _).setCell (p:=⟨w.heap.size,k*3+2,none⟩) (fun _=>rfl) _
   have OG:=Fl.keep (ic.o.keep HBY.o id) (fun e=>by have e':wr.heap.size=w.heap.size:=e;have:=bj TW.o.eI;omega);have HB9:=O OG;clear Fl OG;clear jq q0 q1 q2 f0 tC;go_simp;rw[<-hw9];clear hw9;have OG:=HB9.o;refine hK.out _ _ ⟨by simp[World.cell?,OG],by simp[World.cell?,OG],by simp[World.cell?,OG]⟩ ?_;intro Bv;clear hK FP K Bv OG
   try simp only[Act.put,sA,sB,sC]
   refine wpAnyH_done af ?_ _;go_wp2_with fail
   go_roundw
   case rel=>exact⟨k+1,_,ab,a_,HS9.o⟩
   case measure=>simp[intOf];omega
  ·have KP:k=4:=ab;subst KP;have HD:=O (hcp.done HB.o);have sx:=O hcp.fr;have HNW:=O (show∀j,lz w.heap.size qv j->w.heap.size<=j from fun j hj=>by
    rcases hj with rfl|⟨i,hi,hj⟩
    ·exact ay _
    ·exact Nat.le_of_lt (hcp.new i hi j hj))
   clear hcp H0;go_wp2;go_ret;exact⟨_,_,rfl,HD.o,sx.o,HNW.o⟩
theorem SQ:(prog.info? 97).map (fun i=>(i.zero,i.size,i.bytes))=some (some (.agg Yw),4,40):=af
theorem O0{w4:World}{l:List (gz×Int)}{c:gz×Int}{gg cap:Nat}(h:w4.ownsRow base 97 4 (.slice (some ⟨gg,0,none⟩) (l.length+1) cap) (l.length+1) ((l.map lo).flatten++lo c)) :
  OwnRows base 97 4 w4 (.slice (some ⟨gg,0,none⟩) (l.length+1) cap) ((l++[c]).map lo):=by
 refine⟨fun x hx=>?_,?_⟩
 ·obtain⟨q,_,rfl⟩:=bV.1 hx;exact⟨rfl,Hp q⟩
 ·rw[bH,ed,aM,ai];simpa using h
theorem O2(base:Nat)(w:World)(B off:Nat)(cs:List Value)(v:cU)(p:dM)(o:jG)(hs:List gZ)(h:eP base w v p)(ha:gT w B cs off v)(oF:base<=B)(hf:gH w o hs)(hk:nr p) :
  Calls prog 35 #[.pointer (some ⟨B,off,none⟩),.agg o.cells.toArray] w (eF base w B cs off v (jR p (o.dS hs))):=by
 have uW:B<w.heap.size:=bj ha.eI;have Hf:¬v.ke B:=h.fg ha.eI ag;obtain⟨ah,ch,gV⟩:=hf.gX;obtain⟨w2,eB⟩:∃w2,w2=(w.alloc (.cells o.cells.toArray 41)).alloc (.cells bR 30):=⟨_,rfl⟩;have dy:Fr aR w w2:=by rw[eB];exact((ae aR w).alloc _).alloc _
 have k1:w2.heap[w.heap.size]?=some (.cells o.cells.toArray 41 (0,0)):=by rw[eB];exact((ae aR _).alloc _).keep (aB _ _) id
 have k2:w2.heap[w.heap.size+1]?=some (.cells bR 30 (0,0)):=by
  have h:=aB (w.alloc (.cells o.cells.toArray 41)) (.cells bR 30);rw[bM]at h;rw[eB];exact h
 have xD:w2.heap.size=w.heap.size+2:=by rw[eB];simp
 have Wp:=O (show∀U,Fr aR w2 U->U.heap[w.heap.size]?=some (.cells o.cells.toArray 41 (0,0))from fun U hU=>hU.keep k1 id);have C5:=O Hf;have HH:=O h;have HA:=O ha;have HF:=O hf;have lS:=O gV;have HK:=O hk;have fO:=O dy;have mP:=O k1;have qR:=O k2;have pj:=O (show base<=w.heap.size from ab);have xG:=O oF;have o9:=O uW;have Se:=O eB
 obtain⟨a0,a1,a2,a3,a4,a5,a6,a7,a8,a9,jI,jJ,a12,jH,jK,jr,jY,jZ,j5,kf,a20,a21⟩:=eh k1 gV;rw[eB]at a0 a1 a2 a3 a4 a5 a6 a7 a8 a9 jI jJ a12 jH jK jr jY jZ j5 kf a20 a21;rw[eA gV]at eB a0 a1 a2 a3 a4 a5 a6 a7 a8 a9 jI jJ a12 jH jK jr jY jZ j5 kf a20 a21 ⊢;unfold bR at eB a0 a1 a2 a3 a4 a5 a6 a7 a8 a9 jI jJ a12 jH jK jr jY jZ j5 kf a20 a21;have nJ:=O eB;clear eB gV dy k1 k2 h ha hf Hf hk
 go_enter func35,ntmps35;have Su:=HK.o.tG;by_cases aku:o.cert<0
 ·have HR:=O (show jR p (o.dS hs)=(p,rep 7)by
   unfold jR;rw[az (show(o.dS hs).cert<0 from aku)])
  have HP:=O (ml HH.o HA.o fO.o);have sJ:=nJ.o;subst sJ;go_wp2_with (first|((with_reducible refine cV 30 ?_);refine aE rfl 30 (.tmp 4) (.tmp 9) rfl (w.heap.size+1) #[.int .i64 7,.string ⟨#[]⟩,.int .i64 0] rfl rfl _ bR qR.o (bd _ rfl) rfl ct ?_)|fail)
  refine aS (bu bC _ _ (w.heap.size+1) 30 #[.int .i64 7,.string ⟨#[]⟩,.int .i64 0] (0,0) _ rfl (aX _ (w.heap.size+1) _ _ _ _ qR.o) underlying30 rfl (bd _ rfl)) rfl ?_;unfold eF;rw[HR.o];exact⟨rfl,dw HP.o pj.o o9.o (bU _) qR.o eK ag _⟩
 ·have HR:=O (show jR p (o.dS hs)=({p with dE:=xZ p.dE o.aL.o o.cert},rep 1)by
   unfold jR;rw[aq (show¬(o.dS hs).cert<0 from aku)];rfl)
  have DR:=O (Mr base w2 B off cs v p o.aL.o (HH.o.dh fO.o) (HA.o.dh fO.o) xG.o);unfold gz.cells at DR;have hx:=nJ;have sJ:=nJ.o;go_wp2_with fail
  rw[<-sJ];refine DR.o.mono ?_;rintro e u3⟨rfl,hp3⟩;clear DR a0 a1 a2 a3 a4 a5 a6 a7 a8 a9 jI jJ a12 jH jK jr jY jZ j5 kf a20 a21 hx sJ;obtain⟨v3,i3,f3,acM,akv⟩:=hp3;have aa3:=iu (HA.o.dh fO.o) akv;have o3:=eH (HH.o.dh fO.o) f3 (show w2.heap[w.heap.size]?=_ from mP.o) jo ab;have r3:=eH (HH.o.dh fO.o) f3 (show w2.heap[w.heap.size+1]?=_ from qR.o) dH ab
  obtain⟨a0,a1,a2,a3,a4,a5,a6,a7,a8,a9,jI,jJ,a12,jH,jK,jr,jY,jZ,j5,kf,a20,a21⟩:=eh o3 lS.o;obtain⟨fs,kJ⟩:∃fs,fs=LH o.aL.o p.dE:=⟨_,rfl⟩;have zU:fs.length<=8:=by rw[kJ];unfold LH;exact aD (bQ _ _) Su.2.2.2
  rw[<-kJ]at i3;obtain⟨av,cv,hcv⟩:=i3.dE.form;rw[ai]at hcv;have d2:=aa3.lV;have e2:=aa3.free (off+2);rw[hcv]at d2;have cP:u3.ownsRow base 97 4 (.slice av fs.length cv) fs.length (fs.map lo).flatten:=by
   have h:=i3.dE.2;rw[hcv,ai]at h;exact h
  have hB3:¬own (.slice av fs.length cv) B:=fun hb=>i3.fg aa3.eI ag (Or.inr (Or.inr (by rw[hcv];exact hb)));have akw:B<u3.heap.size:=bj aa3.eI;have aw0:base<=u3.heap.size:=by have:=xG.o;omega
  obtain⟨i0,qD,pq,kZ,lq⟩:=info_parts SQ;have xE:=O (Hp (o.aL.o,o.cert));have I3:=O i3;have A3:=O aa3;have F3:=O f3;have FT3:=O acM;have O3:=O o3;have R3:=O r3;have xI:=O hcv;have Vp:=O kJ;clear i3 aa3 f3 acM o3 r3 akv hcv kJ;go_wp2_with fail
  go_region_law ((with_reducible refine mR ⟨some 29,_,_,_,_,_⟩ ?_)
                 refine step_append_lies _ bC _ _ _ bC base 97 i0 _ 4 40 underlying81 qD pq kZ lq rfl ab (.slice av fs.length cv) fs.length _ bC (by repeat(first|exact cP|apply World.ownsRow.alloc|apply World.ownsRow.drew)) ⟨u3.heap.size,0,none⟩ 1 1 (lo (o.aL.o,o.cert)) bC bC (kQ u3 (lo (o.aL.o,o.cert)) _) xE.o ab fq ab bG (u3.heap.size+1) aQ ?_
                 intro gg cap w4 eY jC dN Ls
                 have jV:Fr (own (.slice av fs.length cv)) u3 w4:=fk (by repeat(first|exact ae _ _|apply aA|apply bz)) jC (fun _ hk _=>hk)
                 have k4:w4.cell? ⟨B,off+2,none⟩=some (.slice av fs.length cv):=(jV.cell (p:=⟨B,off+2,none⟩) akw hB3).trans d2
                 have e4:w4.frozen? ⟨B,off+2,none⟩=false:=(jV.frozen (p:=⟨B,off+2,none⟩) akw hB3).trans e2)
  all_goals
   have hP:=di.dE I3.o A3.o xG.o (O0 eY) (by rw[xI.o];exact jV) (fun k hk=>by
    have e:gg=k:=by simpa[own,Value.ownBlock]using hk
    subst e;rcases dN with dN|dN
    ·exact Or.inl (by rw[xI.o];exact dN)
    ·exact Or.inr ab)
   clear eY jC jV k4 e4 dN Ls cP a0 a1 a2 a3 a4 a5 a6 a7 a8 a9 jI jJ a12 jH jK jr jY jZ j5 kf a20 a21 d2 e2;generalize w4.setCell ⟨B,off+2,none⟩ (.slice (some ⟨gg,0,none⟩) (fs.length+1) cap)=w5 at *
   obtain⟨v5,i5,f5,Ms,WY⟩:=hP;have aa5:=iu A3.o WY;have r5:=eH I3.o f5 R3.o dH ab;obtain⟨av5,cv5,aaV⟩:=i5.dE.form;have Bj:(List.map lo (fs++[(o.aL.o,o.cert)])).length=fs.length+1:=aQ;rw[Bj]at aaV;have d5:=aa5.lV;have e5:=aa5.free (off+2);rw[aaV]at d5;have I5:=O i5;have F5:=O f5;have FT5:=O Ms;have AA5:=O aa5;have R5:=O r5;have WZ:=O aaV;have TJ:=O Bj;clear i5 f5 Ms aa5 r5 aaV Bj WY
   by_cases h8:8<=fs.length
   ·have h8':(8:Int)<(fs.length:Int)+1:=ab;obtain⟨n,hn⟩:∃n:Nat,fs.length+1=n+8:=⟨fs.length+1-8,ab⟩;obtain⟨g5,rfl⟩:∃g5,av5=some ⟨g5,0,none⟩:=by
     rcases I5.o.dE.2.2 with ⟨hv,hq⟩|⟨g,cap,cur,hv,_⟩
     ·rw[TJ.o]at hq;omega
     ·rw[WZ.o]at hv;injection hv with h1;exact⟨g,h1⟩
    have mq:=I5.o.dE;rw[WZ.o, <-TJ.o]at mq;have qJ:=Sx base g5 cv5 0 n (List.map lo (fs++[(o.aL.o,o.cert)])) w5 mq ab (by rw[TJ.o];omega);rw[TJ.o,show 0+(fs.length+1-n)=8 from ab,List.take_zero,List.nil_append, <-List.map_drop]at qJ;have VJ:=O qJ;have HN:=O hn;have hce:=O (show xZ p.dE o.aL.o o.cert=(fs++[(o.aL.o,o.cert)]).drop n by
     unfold xZ;rw[<-Vp.o,aM,show fs.length+[(o.aL.o,o.cert)].length-8=n from bG])
    have qh:(0:Int)<(fs.length:Int)+1-8:=ab;clear qJ mq hn;go_wp2_with fail
    rw[show((fs.length:Int)+1-8)=(n:Int)from by have:=HN.o;omega];refine VJ.o.mono ?_;rintro e w7⟨rfl,Zg,nI⟩;clear VJ d5 e5;have L_:Fr (own v5.cv) w5 w7:=nI.mono (fun k _ hk=>by rw[WZ.o,show k=g5 from hk];rfl);have hP7:=di.dE I5.o AA5.o xG.o Zg L_ (fun k hk=>Or.inl (by rw[WZ.o];exact hk));have hB5:¬own v5.cv B:=fun hb=>I5.o.fg AA5.o.eI ag (Or.inr (Or.inr hb));have aqa:=L_.keep AA5.o.eI hB5
    have a7:gT w7 B _ off v5:=AA5.o.fr L_ hB5;have d7:=a7.lV;have e7:=a7.free (off+2);rw[WZ.o]at d7;have r7:=O (eH I5.o (by obtain⟨_,_,h,_⟩:=hP7;exact h) R5.o dH ab);have HP:=O (show di base w2 B cs off v {p with dE:=xZ p.dE o.aL.o o.cert} _ from by
     rw[hce.o];exact gK F3.o FT3.o (gK F5.o FT5.o hP7))
    clear hP7 Zg nI L_ aqa a7;go_wp2_with (first|((with_reducible refine cV 30 ?_);refine aE rfl 30 (.tmp 4) (.tmp 49) rfl (w.heap.size+1) #[.int .i64 1,.string ⟨#[]⟩,.int .i64 0] rfl rfl _ bR r7.o (bd _ rfl) rfl ct ?_)|fail)
    refine aS (bu bC _ _ (w.heap.size+1) 30 #[.int .i64 1,.string ⟨#[]⟩,.int .i64 0] (0,0) _ rfl (aX _ (w.heap.size+1) _ _ _ _ r7.o) underlying30 rfl (bd _ rfl)) rfl ?_;unfold eF;rw[HR.o];exact⟨rfl,dw (HP.o.after fO.o) pj.o o9.o (bU _) r7.o eK ag _⟩
   ·have h8':¬(8:Int)<(fs.length:Int)+1:=ab;have atm:¬(0:Int)<(fs.length:Int)+1-8:=ab;have hce:=O (show xZ p.dE o.aL.o o.cert=fs++[(o.aL.o,o.cert)]by
     unfold xZ;rw[<-Vp.o,aM,show fs.length+[(o.aL.o,o.cert)].length-8=0 from bG,eD])
    have HP:=O (show di base w2 B cs off v {p with dE:=xZ p.dE o.aL.o o.cert} w5 from by
     rw[hce.o];exact gK F3.o FT3.o ⟨v5,I5.o,F5.o,FT5.o,AA5.o.eI⟩)
    go_wp2_with (first|((with_reducible refine cV 30 ?_);refine aE rfl 30 (.tmp 4) (.tmp 49) rfl (w.heap.size+1) #[.int .i64 1,.string ⟨#[]⟩,.int .i64 0] rfl rfl _ bR R5.o (bd _ rfl) rfl ct ?_)|fail)
    refine aS (bu bC _ _ (w.heap.size+1) 30 #[.int .i64 1,.string ⟨#[]⟩,.int .i64 0] (0,0) _ rfl (aX _ (w.heap.size+1) _ _ _ _ R5.o) underlying30 rfl (bd _ rfl)) rfl ?_;unfold eF;rw[HR.o];exact⟨rfl,dw (HP.o.after fO.o) pj.o o9.o (bU _) R5.o eK ag _⟩
theorem W7(base:Nat)(w:World)(B off:Nat)(cs:List Value)(v:cU)(p:dM)(o:jG)(hs:List gZ)(h:eP base w v p)(ha:gT w B cs off v)(oF:base<=B)(hf:gH w o hs)(hk:nr p) :
  Calls prog 36 #[.pointer (some ⟨B,off,none⟩),.agg o.cells.toArray] w (eF base w B cs off v (pA p (o.dS hs))):=by
 have uW:B<w.heap.size:=bj ha.eI;have Hf:¬v.ke B:=h.fg ha.eI ag;obtain⟨ah,ch,gV⟩:=hf.gX;obtain⟨w2,eB⟩:∃w2,w2=(w.alloc (.cells o.cells.toArray 41)).alloc (.cells bR 30):=⟨_,rfl⟩;have dy:Fr aR w w2:=by rw[eB];exact((ae aR w).alloc _).alloc _
 have k1:w2.heap[w.heap.size]?=some (.cells o.cells.toArray 41 (0,0)):=by rw[eB];exact((ae aR _).alloc _).keep (aB _ _) id
 have k2:w2.heap[w.heap.size+1]?=some (.cells bR 30 (0,0)):=by
  have h:=aB (w.alloc (.cells o.cells.toArray 41)) (.cells bR 30);rw[bM]at h;rw[eB];exact h
 have xD:w2.heap.size=w.heap.size+2:=by rw[eB];simp
 have Wp:=O (show∀U,Fr aR w2 U->U.heap[w.heap.size]?=some (.cells o.cells.toArray 41 (0,0))from fun U hU=>hU.keep k1 id);have C5:=O Hf;have HH:=O h;have HA:=O ha;have HF:=O hf;have lS:=O gV;have HK:=O hk;have fO:=O dy;have mP:=O k1;have qR:=O k2;have pj:=O (show base<=w.heap.size from ab);have xG:=O oF;have o9:=O uW;have Se:=O eB
 obtain⟨a0,a1,a2,a3,a4,a5,a6,a7,a8,a9,jI,jJ,a12,jH,jK,jr,jY,jZ,j5,kf,a20,a21⟩:=eh k1 gV;rw[eB]at a0 a1 a2 a3 a4 a5 a6 a7 a8 a9 jI jJ a12 jH jK jr jY jZ j5 kf a20 a21;rw[eA gV]at eB a0 a1 a2 a3 a4 a5 a6 a7 a8 a9 jI jJ a12 jH jK jr jY jZ j5 kf a20 a21 ⊢;unfold bR at eB a0 a1 a2 a3 a4 a5 a6 a7 a8 a9 jI jJ a12 jH jK jr jY jZ j5 kf a20 a21;have nJ:=O eB
 obtain⟨w3,UX⟩:∃w3,w3=w2.alloc (.cells #[.bool o.aL.o.aF,.string o.aL.o.host,.int .i64 o.aL.o.port] 32):=⟨_,rfl⟩;have iv:Fr aR w2 w3:=by rw[UX];exact(ae aR w2).alloc _
 have k3:w3.heap[w2.heap.size]?=some (.cells #[.bool o.aL.o.aF,.string o.aL.o.host,.int .i64 o.aL.o.port] 32 (0,0)):=by rw[UX];exact aB _ _
 rw[xD]at k3;have ic:=O (fO.o.trans iv);have SS:=O k3;have aky:=O (Wp.o w3 iv);have afx:=O (iv.keep qR.o id);have HW3:=O UX;have H3:=O (HH.o.dh ic.o);have HA3:=O (HA.o.dh ic.o);have Su:=HK.o.tG;have OD:w3.heap.size=w.heap.size+1+1+1:=by rw[UX];simp;omega
 clear UX iv k3;clear eB gV dy k1 k2 h ha hf Hf hk;go_enter func36,ntmps36;have hx:=nJ;have sJ:=nJ.o;cases iB:o.all
 case true =>
  rw[iB]at sJ;by_cases h9:o.what=9
  ·have HR:=O (show pA p (o.dS hs)=(yM,rep 1)by
    unfold pA;rw[az];show(o.all&&o.what==9)=true;rw[iB,h9];rfl)
   have HP:=O (di.fresh H3.o HA3.o xG.o);rw[OD]at HP;rw[h9]at sJ;have Jd:gT ((w3.alloc (.cells #[.slice none 0 0,.slice none 0 0] 89)).alloc (.cells #[.slice none 0 0] 92)) B cs off v:=HA3.o.dh (((ae aR w3).alloc _).alloc _);have c0:=Jd.cell0;have c1:=Jd.hZ;have c2:=Jd.lV;have f0:=Jd.free off;have f1:=Jd.free (off+1);have f2:=Jd.free (off+2)
   have Bx:=O (uV (uV (uV ((((ae aR w3).alloc (.cells #[.slice none 0 0,.slice none 0 0] 89)).alloc (.cells #[.slice none 0 0] 92)).keep afx.o id) (show w.heap.size+1≠B from ab) off (.pointer (some ⟨w.heap.size+1+1+1,0,none⟩))) (show w.heap.size+1≠B from ab) (off+1) (.pointer (some ⟨w.heap.size+1+1+1+1,0,none⟩))) (show w.heap.size+1≠B from ab) (off+2) (.slice none 0 0));clear Jd
   go_wp2_with (first|((with_reducible refine cV 83 ?_);have O5:=hx;clear hx O5;rw[<-sJ];rw[<-HW3.o];generalize (w3.alloc (.cells #[.slice none 0 0,.slice none 0 0] 89)).alloc (.cells #[.slice none 0 0] 92)=W5 at *)|((with_reducible refine cV 30 ?_);refine aE rfl 30 (.tmp 4) (.tmp 24) rfl (w.heap.size+1) #[.int .i64 1,.string ⟨#[]⟩,.int .i64 0] rfl rfl _ bR Bx.o (bd _ rfl) rfl ct ?_))
   refine aS (bu bC _ _ (w.heap.size+1) 30 #[.int .i64 1,.string ⟨#[]⟩,.int .i64 0] (0,0) _ rfl (aX _ (w.heap.size+1) _ _ _ _ Bx.o) underlying30 rfl (bd _ rfl)) rfl ?_;unfold eF;rw[HR.o];exact⟨rfl,dw (HP.o.after ic.o) pj.o o9.o (bU _) Bx.o eK ag _⟩
  ·have t9:(o.what==9)=false:=aN.2 h9;clear h9;have HSW:=O (show∀U,Fr aR w3 U->Calls prog 70 #[.pointer (some ⟨v.b,0,none⟩),.agg #[.bool o.aL.o.aF,.string o.aL.o.host,.int .i64 o.aL.o.port]] U (xp base U v.b v.gv v.wv p.bF p.waits o.aL.o)from fun U hU=>GP base U v.b v.gv v.wv p.bF p.waits o.aL.o ((H3.o.dh hU).oC) ab)
   have Hn:=O (show∀U,Fr (dt v.b v.gv v.wv) w3 U->(U.cell? ⟨B,off,none⟩=some (.pointer (some ⟨v.b,0,none⟩))/\U.cell? ⟨w.heap.size+2,0,none⟩=some (.bool o.aL.o.aF)/\U.cell? ⟨w.heap.size+2,1,none⟩=some (.string o.aL.o.host)/\U.cell? ⟨w.heap.size+2,2,none⟩=some (.int .i64 o.aL.o.port))from fun U hU=>by
    have j1:=HA3.o.fr hU (fun hb=>C5.o (Or.inl hb));have j2:=hU.keep SS.o (fun hb=>by
     obtain⟨c,t,e,hk⟩:=H3.o.oC.ir hb;rw[SS.o]at e;cases e;revert hk;decide)
    exact⟨j1.cell0,by simp[World.cell?,j2]⟩)
   go_wp2_with fail
   rw[<-sJ, <-HW3.o];clear a0 a1 a2 a3 a4 a5 a6 a7 a8 a9 jI jJ a12 jH jK jr jY jZ j5 kf a20 a21 sJ
   go_region_held3 (fun U=>Fr (dt v.b v.gv v.wv) w3 U/\U.cell? ⟨B,off,none⟩=some (.pointer (some ⟨v.b,0,none⟩))/\U.cell? ⟨w.heap.size+2,0,none⟩=some (.bool o.aL.o.aF)/\U.cell? ⟨w.heap.size+2,1,none⟩=some (.string o.aL.o.host)/\U.cell? ⟨w.heap.size+2,2,none⟩=some (.int .i64 o.aL.o.port)) ((refine(fun hU=>⟨hU,Hn.o _ hU⟩) ?_;first|exact aA (ae _ _)|assumption))
    ((first
     |(go_at_call 70;refine(HSW.o _ (aA (ae _ _))).mono ?_;rintro e u4 ⟨rfl,vL⟩;have afy:Fr (dt v.b v.gv v.wv) w3 u4:=(aA (ae _ _)).trans (by obtain⟨_,_,_,h,_⟩:=vL;exact h))))
   obtain⟨v4,i4,f4,Mt,W_⟩:=eQ (H3.o.dh (aA (ae aR w3))) (HA3.o.dh (aA (ae aR w3))) C5.o vL;have a4:=iu HA3.o W_;have o4:=eH (H3.o.dh (aA (ae aR w3))) f4 (show w3.drew.heap[w.heap.size]?=_ from aky.o) jo ab;have r4:=eH (H3.o.dh (aA (ae aR w3))) f4 (show w3.drew.heap[w.heap.size+1]?=_ from afx.o) dH ab;have g4:=eH (H3.o.dh (aA (ae aR w3))) f4 (show w3.drew.heap[w.heap.size+2]?=_ from SS.o) pT ab
   have I4:=O i4;have F4:=O f4;have FT4:=O Mt;have AA4:=O a4;have O4:=O o4;have R4:=O r4;have G4:=O g4;obtain⟨a0,a1,a2,a3,a4,a5,a6,a7,a8,a9,jI,jJ,a12,jH,jK,jr,jY,jZ,j5,kf,a20,a21⟩:=eh o4 lS.o;clear vL afy i4 f4 Mt a4 o4 r4 g4 W_ Hn HSW;have HR:=O (show pA p (o.dS hs)=(uT p o.aL.o,rep 1)by
    unfold pA;rw[aq,aq]
    ·rfl
    ·show¬(o.what==9)=true;rw[t9];exact gL
    ·show¬(o.all&&o.what==9)=true;rw[t9,Bool.and_false];exact gL)
   have HP:=O (show di base w3 B cs off v (uT p o.aL.o) u4 from cZ (aA (ae aR w3)) ⟨v4,I4.o,F4.o,FT4.o,AA4.o.eI⟩);go_wp2_with (first|((with_reducible refine cV 30 ?_);refine aE rfl 30 (.tmp 4) (.tmp 43) rfl (w.heap.size+1) #[.int .i64 1,.string ⟨#[]⟩,.int .i64 0] rfl rfl _ bR R4.o (bd _ rfl) rfl ct ?_)|fail)
   refine aS (bu bC _ _ (w.heap.size+1) 30 #[.int .i64 1,.string ⟨#[]⟩,.int .i64 0] (0,0) _ rfl (aX u4 (w.heap.size+1) _ _ _ _ R4.o) underlying30 rfl (bd _ rfl)) rfl ?_;unfold eF;rw[HR.o];exact⟨rfl,dw (HP.o.after ic.o) pj.o o9.o (bU _) R4.o eK ag _⟩
 case false =>
  rw[iB]at sJ;have HSW:=O (show∀U,Fr aR w3 U->Calls prog 70 #[.pointer (some ⟨v.b,0,none⟩),.agg #[.bool o.aL.o.aF,.string o.aL.o.host,.int .i64 o.aL.o.port]] U (xp base U v.b v.gv v.wv p.bF p.waits o.aL.o)from fun U hU=>GP base U v.b v.gv v.wv p.bF p.waits o.aL.o ((H3.o.dh hU).oC) ab)
  have Hn:=O (show∀U,Fr (dt v.b v.gv v.wv) w3 U->(U.cell? ⟨B,off,none⟩=some (.pointer (some ⟨v.b,0,none⟩))/\U.cell? ⟨w.heap.size+2,0,none⟩=some (.bool o.aL.o.aF)/\U.cell? ⟨w.heap.size+2,1,none⟩=some (.string o.aL.o.host)/\U.cell? ⟨w.heap.size+2,2,none⟩=some (.int .i64 o.aL.o.port))from fun U hU=>by
   have j1:=HA3.o.fr hU (fun hb=>C5.o (Or.inl hb));have j2:=hU.keep SS.o (fun hb=>by
    obtain⟨c,t,e,hk⟩:=H3.o.oC.ir hb;rw[SS.o]at e;cases e;revert hk;decide)
   exact⟨j1.cell0,by simp[World.cell?,j2]⟩)
  go_wp2_with fail
  rw[<-sJ, <-HW3.o];clear a0 a1 a2 a3 a4 a5 a6 a7 a8 a9 jI jJ a12 jH jK jr jY jZ j5 kf a20 a21 sJ
  go_region_held3 (fun U=>Fr (dt v.b v.gv v.wv) w3 U/\U.cell? ⟨B,off,none⟩=some (.pointer (some ⟨v.b,0,none⟩))/\U.cell? ⟨w.heap.size+2,0,none⟩=some (.bool o.aL.o.aF)/\U.cell? ⟨w.heap.size+2,1,none⟩=some (.string o.aL.o.host)/\U.cell? ⟨w.heap.size+2,2,none⟩=some (.int .i64 o.aL.o.port)) ((refine(fun hU=>⟨hU,Hn.o _ hU⟩) ?_;first|exact aA (ae _ _)|assumption))
   ((first
    |(go_at_call 70;refine(HSW.o _ (aA (ae _ _))).mono ?_;rintro e u4 ⟨rfl,vL⟩;have afy:Fr (dt v.b v.gv v.wv) w3 u4:=(aA (ae _ _)).trans (by obtain⟨_,_,_,h,_⟩:=vL;exact h))))
  obtain⟨v4,i4,f4,Mt,W_⟩:=eQ (H3.o.dh (aA (ae aR w3))) (HA3.o.dh (aA (ae aR w3))) C5.o vL;have a4:=iu HA3.o W_;have o4:=eH (H3.o.dh (aA (ae aR w3))) f4 (show w3.drew.heap[w.heap.size]?=_ from aky.o) jo ab;have r4:=eH (H3.o.dh (aA (ae aR w3))) f4 (show w3.drew.heap[w.heap.size+1]?=_ from afx.o) dH ab;have g4:=eH (H3.o.dh (aA (ae aR w3))) f4 (show w3.drew.heap[w.heap.size+2]?=_ from SS.o) pT ab
  have I4:=O i4;have F4:=O f4;have FT4:=O Mt;have AA4:=O a4;have O4:=O o4;have R4:=O r4;have G4:=O g4;obtain⟨a0,a1,a2,a3,a4,a5,a6,a7,a8,a9,jI,jJ,a12,jH,jK,jr,jY,jZ,j5,kf,a20,a21⟩:=eh o4 lS.o;clear vL afy i4 f4 Mt a4 o4 r4 g4 W_ Hn HSW;by_cases h9:o.what=9
  ·have t9:(o.what==9)=true:=by rw[h9];rfl
   clear h9;have HR:=O (show pA p (o.dS hs)=(Od p o.aL.o,rep 1)by
    unfold pA;rw[aq,az]
    ·rfl
    ·show(o.what==9)=true;exact t9
    ·show¬(o.all&&o.what==9)=true;rw[iB,kB];exact gL)
   have uY:=O (show∀U,Fr aR u4 U->Calls prog 71 #[.pointer (some ⟨v4.k,0,none⟩),.agg #[.bool o.aL.o.aF,.string o.aL.o.host,.int .i64 o.aL.o.port]] U (uo base U v4.k v4.kv p.book (ef.wT o.aL.o))from fun U hU=>Oh base U v4.k v4.kv p.book o.aL.o ((I4.o.dh hU).book) ab)
   have Hn:=O (show∀U,Fr (iA v4.k v4.kv) u4 U->(U.cell? ⟨B,off+1,none⟩=some (.pointer (some ⟨v4.k,0,none⟩))/\U.cell? ⟨w.heap.size+2,0,none⟩=some (.bool o.aL.o.aF)/\U.cell? ⟨w.heap.size+2,1,none⟩=some (.string o.aL.o.host)/\U.cell? ⟨w.heap.size+2,2,none⟩=some (.int .i64 o.aL.o.port))from fun U hU=>by
    have j1:=AA4.o.fr hU (fun hb=>I4.o.fg AA4.o.eI ag (Or.inr (Or.inl hb)));have j2:=hU.keep G4.o (fun hb=>I4.o.fg G4.o pT (Or.inr (Or.inl hb)));exact⟨j1.hZ,by simp[World.cell?,j2]⟩)
   go_wp2_with fail
   clear a0 a1 a2 a3 a4 a5 a6 a7 a8 a9 jI jJ a12 jH jK jr jY jZ j5 kf a20 a21
   go_region_held3 (fun U=>Fr (iA v4.k v4.kv) u4 U/\U.cell? ⟨B,off+1,none⟩=some (.pointer (some ⟨v4.k,0,none⟩))/\U.cell? ⟨w.heap.size+2,0,none⟩=some (.bool o.aL.o.aF)/\U.cell? ⟨w.heap.size+2,1,none⟩=some (.string o.aL.o.host)/\U.cell? ⟨w.heap.size+2,2,none⟩=some (.int .i64 o.aL.o.port)) ((refine(fun hU=>⟨hU,Hn.o _ hU⟩) ?_;first|exact aA (ae _ _)|assumption))
    ((first
     |(go_at_call 71;refine(uY.o _ (aA (ae _ _))).mono ?_;rintro e u5 ⟨rfl,FH⟩;have aqb:Fr (iA v4.k v4.kv) u4 u5:=(aA (ae _ _)).trans (by obtain⟨_,_,h,_⟩:=FH;exact h))))
   obtain⟨v5,i5,f5,Ms,WY⟩:=oZ (I4.o.dh (aA (ae aR u4))) (AA4.o.dh (aA (ae aR u4))) (I4.o.fg AA4.o.eI ag) FH;have a5:=iu AA4.o WY;have r5:=eH (I4.o.dh (aA (ae aR u4))) f5 (show u4.drew.heap[w.heap.size+1]?=_ from R4.o) dH ab;have g5:=eH (I4.o.dh (aA (ae aR u4))) f5 (show u4.drew.heap[w.heap.size+2]?=_ from G4.o) pT ab;have DR:=O (Mr base u5 B off _ v5 _ o.aL.o i5 a5 xG.o)
   have l0:u5.cell? ⟨w.heap.size+2,0,none⟩=some (.bool o.aL.o.aF):=by simp[World.cell?,g5]
   have l1:u5.cell? ⟨w.heap.size+2,1,none⟩=some (.string o.aL.o.host):=by simp[World.cell?,g5]
   have l2:u5.cell? ⟨w.heap.size+2,2,none⟩=some (.int .i64 o.aL.o.port):=by simp[World.cell?,g5]
   have I5:=O i5;have F5:=O f5;have FT5:=O Ms;have R5:=O r5;unfold gz.cells at DR;clear FH aqb i5 f5 Ms a5 r5 g5 WY Hn uY;go_wp2_with fail
   refine DR.o.mono ?_;rintro e u6⟨rfl,hp6⟩;have JO:=O (show u6.heap[w.heap.size+1]?=_ from eH I5.o (by obtain⟨_,_,h,_⟩:=hp6;exact h) R5.o dH ab);have HP:=O (show di base w3 B cs off v (Od p o.aL.o) u6 from cZ (aA (ae aR w3)) (gK F4.o FT4.o (cZ (aA (ae aR u4)) (gK F5.o FT5.o hp6))));clear DR hp6 l0 l1 l2
   go_wp2_with (first|((with_reducible refine cV 30 ?_);refine aE rfl 30 (.tmp 4) (.tmp 43) rfl (w.heap.size+1) #[.int .i64 1,.string ⟨#[]⟩,.int .i64 0] rfl rfl _ bR JO.o (bd _ rfl) rfl ct ?_)|fail)
   refine aS (bu bC _ _ (w.heap.size+1) 30 #[.int .i64 1,.string ⟨#[]⟩,.int .i64 0] (0,0) _ rfl (aX u6 (w.heap.size+1) _ _ _ _ JO.o) underlying30 rfl (bd _ rfl)) rfl ?_;unfold eF;rw[HR.o];exact⟨rfl,dw (HP.o.after ic.o) pj.o o9.o (bU _) JO.o eK ag _⟩
  ·have t9:(o.what==9)=false:=aN.2 h9;clear h9;have HR:=O (show pA p (o.dS hs)=(uT p o.aL.o,rep 1)by
    unfold pA;rw[aq,aq]
    ·rfl
    ·show¬(o.what==9)=true;rw[t9];exact gL
    ·show¬(o.all&&o.what==9)=true;rw[t9,Bool.and_false];exact gL)
   have HP:=O (show di base w3 B cs off v (uT p o.aL.o) u4 from cZ (aA (ae aR w3)) ⟨v4,I4.o,F4.o,FT4.o,AA4.o.eI⟩);go_wp2_with (first|((with_reducible refine cV 30 ?_);refine aE rfl 30 (.tmp 4) (.tmp 43) rfl (w.heap.size+1) #[.int .i64 1,.string ⟨#[]⟩,.int .i64 0] rfl rfl _ bR R4.o (bd _ rfl) rfl ct ?_)|fail)
   refine aS (bu bC _ _ (w.heap.size+1) 30 #[.int .i64 1,.string ⟨#[]⟩,.int .i64 0] (0,0) _ rfl (aX u4 (w.heap.size+1) _ _ _ _ R4.o) underlying30 rfl (bd _ rfl)) rfl ?_;unfold eF;rw[HR.o];exact⟨rfl,dw (HP.o.after ic.o) pj.o o9.o (bU _) R4.o eK ag _⟩
