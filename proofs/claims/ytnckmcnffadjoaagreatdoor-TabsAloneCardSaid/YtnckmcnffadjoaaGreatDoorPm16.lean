/- Lemmas for the law's walk. -/
import Derived.Test.YtnckmcnffadjoaaGreatDoorPm15
import Derived.Great.BuildSlice
import Derived.Deep.Onto
set_option maxRecDepth 100000
set_option maxHeartbeats 16000000
set_option linter.unusedSimpArgs false
namespace Go.Proofs.YtnckmcnffadjoaaGreatDoor
open Go.Proofs.Tryz
open Go.RowKit
variable {n k b b' base:Nat} {w W:World} {v:Value} {xs:cZ} {hs:List ig} {x:dI}
theorem Bw{P:Program}{ops:Array Oper}{rest:List Oper}{o:Oper}{a:Act}{w:World}{Q:Exit->Act->World->Prop}(hw:Region.wanted o (yielded ops a.tmps)=true)(ty:TypeId)(x:Operand)(ho:o.op=.load ty x)
  (g:Nat)(hx:a.eval x=.pointer (some ⟨g,0,none⟩))(t:TypeId)(cs:bS)(fr:Nat×Nat)(d:TypeDesc)(hg:w.heap[g]?=some (.cells cs t fr))
  (hu:P.underlying ty=some d)(hd:(match d with| .struct _| .array _ _=>true|_=>false)=true)(hi:(P.info? ty).map (·.size)=some cs.size)
  (h:wpList P ops Q rest (a.put o.dst (.agg cs)) w):wpList P ops Q (o :: rest) a w :=
 Go.BigFrame.wpList_want hw fun _ hK=>wp_load_row ty x ho g hx t cs fr d hg hu hd hi (hK _ _ h)
theorem xK{P:Program}{ops:Array Oper}{rest:List Oper}{o:Oper}{a:Act}{w:World}{Q:Exit->Act->World->Prop}(hg:o.guard=none)(t e:TypeId)(len:Nat)(parts:Array (Nat×Operand))(ho:o.op=.buildSlice t len parts)(dst:Option Tmp)(OU:o.dst=dst)
  (cells:bS)(ie:TypeInfo)(z:Value)(vs:List (Nat×Value))(he:(parts.map fun(i,x)=>(i,a.eval x)).toList=vs)
  (hu:P.underlying t=some (.slice e))(hie:P.info? e=some ie)(hz:ie.zero=some z)(Hs:¬len*ie.size>2^24)(p_:¬len*ie.size=0)
  (hf:Instr.fill (fun i=>some (i*ie.size,ie.size)) ((Array.range (len*ie.size)).map (z.cells[· %z.cells.size]!)) vs=some cells)(N:Nat)(hN:w.heap.size=N)
  (h:wpList P ops Q rest (a.put dst (.slice (some ⟨N,0,none⟩) len len)) (w.alloc (.cells cells e))):wpList P ops Q (o :: rest) a w:=by
 subst OU hN;exact wpList_buildSlice hg t e len parts ho cells ie z hu hie hz Hs p_ (by rw[he];exact hf) h
theorem Xx:(prog.info? 41).map (fun i=>(i.zero,i.size,i.bytes))=some (some (.agg zOp),22,272):=af
theorem afJ(o:jQ)(ah:eV)(nh ch:Nat):Instr.fill (fun i=>some (i*22,22)) ((Array.range (1*22)).map ((Value.agg zOp).cells[· %(Value.agg zOp).cells.size]!)) [(0,.agg #[.int .i64 o.what,.int .i64 o.aJ.part,.bool o.aJ.cX.aE,.string o.aJ.cX.host,.int .i64 o.aJ.cX.port,.bool o.aJ.o.aE,.string o.aJ.o.host,.int .i64 o.aJ.o.port,.string o.aJ.path,.string o.aJ.query,.string o.aJ.method,.slice ah nh ch,.bool o.aJ.fN,.string o.aJ.body,.bool o.proxy,.string o.text,.string o.user,.string o.pass,.string o.bL,.int .i64 o.cert,.bool o.all,.int .i64 o.n])]=some #[.int .i64 o.what,.int .i64 o.aJ.part,.bool o.aJ.cX.aE,.string o.aJ.cX.host,.int .i64 o.aJ.cX.port,.bool o.aJ.o.aE,.string o.aJ.o.host,.int .i64 o.aJ.o.port,.string o.aJ.path,.string o.aJ.query,.string o.aJ.method,.slice ah nh ch,.bool o.aJ.fN,.string o.aJ.body,.bool o.proxy,.string o.text,.string o.user,.string o.pass,.string o.bL,.int .i64 o.cert,.bool o.all,.int .i64 o.n]:=af
theorem afK(o:jQ){ah:eV}{ch:Nat}(hh:o.aJ.ey=.slice ah n ch):∀u∈o.cells,u.oneCell'=true:=by
 unfold jQ.cells gu.cells;rw[hh];intro u hu;simp only[List.cons_append,List.nil_append,bB,cz,dX]at hu;rcases hu with rfl|rfl|rfl|rfl|rfl|rfl|rfl|rfl|rfl|rfl|rfl|rfl|rfl|rfl|rfl|rfl|rfl|rfl|rfl|rfl|rfl|rfl<;>rfl
def qw(o:jQ×List ig):Bool:=!oo o.1.aJ o.2||decide ((900:Int)<(o.1.aJ.body.size:Int)+(o.1.text.size:Int)+(o.1.user.size:Int)+(o.1.pass.size:Int)+(o.1.bL.size:Int))
def EH(os:List (jQ×List ig)):Bool:=decide (os.length<=30)&&!(os.any qw)
theorem dY.det{ys:cZ}(h:dY k w v xs)(h':dY k w v ys):xs=ys:=by
 obtain⟨o1,h1⟩:=h;obtain⟨o2,h2⟩:=h';rcases h1 with ⟨a,c,hv,hs,_⟩|⟨bk,o,c,hv,_,_,_,h4⟩<;>rcases h2 with ⟨a',c',se,Sm,_⟩|⟨Jy,o',c',se,_,_,_,h4'⟩
 ·rw[hs,Sm]
 ·rw[hv]at se;injection se with _ e _
  rw[hs];exact(dH.1 e.symm).symm
 ·rw[hv]at se;injection se with _ e _
  rw[Sm];exact dH.1 e
 ·rw[hv]at se;injection se with ea e _
  injection ea with ea
  injection ea with e1 e2
  subst e1 e2;refine List.ext_getElem e (fun j hj hj'=>?_);have lx:=(o1 _ (bN hj)).1;have ly:=(o2 _ (bN hj')).1;refine List.ext_getElem (lx.trans ly.symm) (fun i hi hi'=>?_);have q:=h4 j _ (List.getElem?_eq_getElem hj) i _ (List.getElem?_eq_getElem hi);have q':=h4' j _ (List.getElem?_eq_getElem hj') i _ (List.getElem?_eq_getElem hi');rw[q]at q';injection q'
theorem XD{Sm:List ig}(h:hs.map ig.cells=Sm.map ig.cells):hs=Sm:=by
 have:=ar (List.map QA) h;rw[iq,iq]at this;have e:∀l:List ig,l.map (QA ∘ ig.cells)=l:=fun l=>by
  induction l with
  |nil=>rfl
  |cons p l ih=>rw[cE,ih];rfl
 rw[e,e]at this;exact this
theorem jQ.SZ{o o':jQ}(h:o.cells=o'.cells):o=o':=by
 obtain⟨a,⟨b,⟨c1,c2,c3⟩,⟨d1,d2,d3⟩,e1,e2,e3,e4,e5,e6⟩,f,g,h1,h2,i,j,k,l⟩:=o;obtain⟨a',⟨b',⟨c1',c2',c3'⟩,⟨d1',d2',d3'⟩,e1',e2',e3',e4',e5',e6'⟩,f',g',Ir,h2',i',j',k',l'⟩:=o';simp only[jQ.cells,gu.cells,List.cons_append,List.nil_append,fF,Value.bool.injEq,Value.string.injEq,Value.int.injEq,true_and,iM]at h
 obtain⟨rfl,rfl,rfl,rfl,rfl,rfl,rfl,rfl,rfl,rfl,rfl,rfl,rfl,rfl,rfl,rfl,rfl,rfl,rfl,rfl,rfl,rfl⟩:=h;rfl
theorem XE{o o':jQ×List ig}(h:sV w o.1 o.2)(h':sV w o'.1 o'.2)(e:o.1.cells=o'.1.cells):o=o':=by
 have e1:=jQ.SZ e;have h2:=h'.aJ.ey;rw[<-e1]at h2;have e2:=XD (h.aJ.ey.det h2);exact Prod.ext e1 e2
theorem S_(o:jQ)(hs:List ig)(w:World)(h:sV w o hs) :
  aB 40 #[.agg o.cells.toArray] w fun e w'=>e=.returned (.bool (qw (o,hs)))/\Fr aS w w':=by
 obtain⟨⟨hh,hl,pj,hz,hbd,_,_,_⟩,akQ,akR,akS,zcn,_,_,_⟩:=h;obtain⟨wb,j6⟩:∃wb,wb=w.alloc (.cells o.cells.toArray 41):=⟨_,rfl⟩;have ks:Fr aS w wb:=by rw[j6];exact(ae aS w).alloc _
 have mf:wb.heap[w.heap.size]?=some (.cells o.cells.toArray 41 (0,0)):=by rw[j6];exact aC _ _
 obtain⟨ah,ch,gH⟩:=dK hh;rw[ai]at gH;have HC:=O (show∀U,Fr aS wb U->U.cell? ⟨w.heap.size,13,none⟩=some (.string o.aJ.body)/\U.cell? ⟨w.heap.size,15,none⟩=some (.string o.text)/\U.cell? ⟨w.heap.size,16,none⟩=some (.string o.user)/\U.cell? ⟨w.heap.size,17,none⟩=some (.string o.pass)/\U.cell? ⟨w.heap.size,18,none⟩=some (.string o.bL)from fun U hU=>by
  obtain⟨a0,a1,a2,a3,a4,a5,a6,a7,a8,a9,jI,jJ,a12,jG,jK,jo,jV,jW,jX,ka,a20,a21⟩:=ep (hU.keep mf id) gH;exact⟨jG,jo,jV,jW,jX⟩)
 have Yc:=O (Jj o.aJ hs wb (bh hh ks) hl pj hz);obtain⟨a0,a1,a2,a3,a4,a5,a6,a7,a8,a9,jI,jJ,a12,jG,jK,jo,jV,jW,jX,ka,a20,a21⟩:=ep mf gH;rw[j6]at a1 a2 a3 a4 a5 a6 a7 a8 a9 jI jJ a12 jG;rw[d_ gH]at j6 a1 a2 a3 a4 a5 a6 a7 a8 a9 jI jJ a12 jG ⊢;rw[zW gH]at Yc;have mr:=O ks;have qV:=O j6;clear hh hl pj hz ks mf gH j6 a0 jK jo jV jW jX ka a20 a21;cases hrf:oo o.aJ hs
 ·have HR:=O (show qw (o,hs)=true by unfold qw;simp only;rw[hrf];rfl);rw[hrf]at Yc;clear hrf;go_enter func40,ntmps40;go_wp2_with fail
  rw[<-qV.o];refine Yc.o.mono ?_;rintro e u⟨rfl,hf⟩;clear a1 a2 a3 a4 a5 a6 a7 a8 a9 jI jJ a12 jG;go_wp2;go_ret;exact⟨by rw[HR.o];rfl,mr.o.trans hf⟩
 ·have HR:=O (show qw (o,hs)=decide ((900:Int)<(o.aJ.body.size:Int)+(o.text.size:Int)+(o.user.size:Int)+(o.pass.size:Int)+(o.bL.size:Int))by unfold qw;simp only;rw[hrf];rfl);rw[hrf]at Yc;clear hrf;go_enter func40,ntmps40;go_wp2_with fail
  rw[<-qV.o];refine Yc.o.mono ?_;rintro e u⟨rfl,hf⟩;clear a1 a2 a3 a4 a5 a6 a7 a8 a9 jI jJ a12 jG;obtain⟨b13,b15,b16,b17,b18⟩:=HC.o u hf;go_wp2;go_ret;exact⟨by rw[HR.o];rfl,mr.o.trans hf⟩
theorem Mz(v:Value)(os:List (jQ×List ig))(w:World)(h:ED w v os) :
  aB 17 #[v] w fun e w'=>e=.returned (.bool (EH os))/\Fr aS w w':=by
 classical
 obtain⟨hv,hl,ha⟩:=h;obtain⟨av,cv,fJ⟩:=hv.form;rw[ai]at fJ;subst fJ;obtain⟨p,hp⟩:∃p:aX->Bool,∀o∈os,p o.1.cells=qw o:=⟨fun x=>decide (∃o∈os,o.1.cells=x/\qw o=true),fun o ho=>by
  cases hq:qw o
  ·refine bD (fun⟨o',ER,e,G0⟩=>?_);rw[XE (ha o' ER) (ha o ho) e,hq]at G0;cases G0
  ·exact bM ⟨o,ho,rfl,hq⟩⟩
 have MV:=O (Ct _ #[] p _ _ w call40 (fun x hx u hu=>by
  obtain⟨o,ho,rfl⟩:=b_.1 hx;rw[hp o ho];have h:=ha o ho;have h':sV u o.1 o.2:={h with aJ:={h.aJ with ey:=bh h.aJ.ey hu}};simpa using S_ o.1 o.2 u h') hv)
 have jk:=O (show(os.map fun o=>o.1.cells).any p=os.any qw by
  rw[List.any_map];clear MV hv hl
  induction os with
  |nil=>rfl
  |cons o os ih =>
   rw[List.any_cons,List.any_cons,ih (fun x hx=>ha x (bQ _ hx)) (fun x hx=>hp x (bQ _ hx))];show(p o.1.cells||_)=_;rw[hp o (cY ..)])
 clear hp ha hv;by_cases h30:os.length<=30
 ·have hb:=O (show EH os=!(os.any qw)by unfold EH;rw[bM h30];rfl);have i30:(os.length:Int)<=30:=ab;have d30:decide ((os.length:Int)<=30)=true:=bM i30;go_enter func17,ntmps17;go_wp2_with fail
  refine MV.o.mono ?_;rw[jk.o];rintro e u⟨rfl,hf⟩;go_wp2;go_ret;exact⟨fB hb.o.symm,hf⟩
 ·have hb:=O (show EH os=false by unfold EH;rw[bD h30];rfl);have i30:¬(os.length:Int)<=30:=ab;have d30:decide ((os.length:Int)<=30)=false:=bD i30;go_enter func17,ntmps17;go_wp2;go_ret;exact⟨fB hb.o.symm,ae _ _⟩
theorem gI.akU{o:jQ}(h:sV w o hs)(hb:qw (o,hs)=false):gI w o hs:=by
 obtain⟨⟨hh,hl,pj,hz,hbd,z1,z2,z3⟩,akQ,akR,akS,zcn,y1,y2,y3⟩:=h;unfold qw at hb;simp only[eM,Bool.not_eq_false',decide_eq_false_iff_not]at hb;obtain⟨h1,h2⟩:=hb;have hq:=h1;unfold oo at hq;simp only[cF,dG]at hq;obtain⟨hf,hq⟩:=hq;have b1:=Go.bounds_i64 z1;have b2:=Go.bounds_i64 z2;have b3:=Go.bounds_i64 z3;have b4:=Go.bounds_i64 y1;have b5:=Go.bounds_i64 y2;have b6:=Go.bounds_i64 y3;unfold My at hf
 simp only[cF,dG,Bool.not_eq_true',eY]at hf;exact⟨hh,⟨ab,ab,fun p hp=>by
  have:=hf.2 p hp;unfold SY at this;rw[dG]at this;omega⟩,ab,ab,ab,ab,ab,ab,ab,ab,ab,ab,b2,b3,b1,b4,b5,b6⟩
theorem VY{P G:Nat->bS->World->Prop}{T:Prop}(main:(∀a b c,P a b c->G a b c)->T)(rest:∀a b c,P a b c->G a b c):T:=main rest
def sS(base:Nat)(a:World)(B off:Nat)(cs:aX)(v:cV)(p:dS)(n:Nat)(X:bS)(t:TypeId)(W:World):Prop :=
 ∃v',eQ base W v' p/\Fr (zV B v) a W/\(∀k,v'.j_ k->v.j_ k\/a.heap.size<=k)/\W.heap[B]?=some (.cells (pn cs off v').toArray 86 (0,0))/\W.heap[n]?=some (.cells X t (0,0))/\¬v'.j_ n/\a.heap.size<=n
section
variable {base B off n : Nat} {a w3 u : World} {cs : List Value} {v : cV} {p p0 : dS} {z : Array Value} {t : TypeId}
theorem sS.core{v':cV}(h1:eQ base u v' p)(h2:Fr (zV B v) a u)(h3:∀k,v'.j_ k->v.j_ k\/a.heap.size<=k)(h4:u.heap[B]?=some (.cells (pn cs off v').toArray 86 (0,0)))(hn:u.heap[n]?=some (.cells z t (0,0)))(hf:¬v'.j_ n)(VZ:a.heap.size<=n)(oB:base<=a.heap.size)(hB:B<a.heap.size)(hs:t≠9)(X:bS) :
  sS base a B off cs v p n X t (u.setRow n X)/\∀vv ss,dv base u vv ss->dv base (u.setRow n X) vv ss:=by
 have kH:Fr (one n) u (u.setRow n X):=(ae (one n) u).setRow (fun _=>rfl) _;have mS:rY base u (one n):=by
  rintro k rfl _;exact⟨ab,fun c f e=>by rw[hn]at e;cases e;exact hs rfl⟩
 refine⟨⟨v',h1.fr kH mS (fun i hi e=>?_),h2.step kH (fun k hk e=>?_),h3,kH.keep h4 (fun e=>?_),jR hn,hf,VZ⟩,fun vv ss h=>h.fr kH mS⟩
 ·have e':i=n:=e;subst e';exact hf hi
 ·have e':k=n:=e;omega
 ·have e':B=n:=e;omega
theorem sS.after(h:dk base a B cs off v p u)(oB:base<=a.heap.size)(hB:B<a.heap.size)(hs:t≠9)(z X:bS) :
  sS base a B off cs v p u.heap.size X t ((u.alloc (.cells z t)).setRow u.heap.size X)/\∀vv ss,dv base u vv ss->dv base ((u.alloc (.cells z t)).setRow u.heap.size X) vv ss:=by
 obtain⟨v',h1,h2,h3,h4⟩:=h;have gS:Fr aS u (u.alloc (.cells z t)):=(ae aS u).alloc _;obtain⟨g1,g2⟩:=sS.core (h1.dm gS) (h2.alloc _) h3 (gS.keep h4 id) (aC _ _) (fun hf=>by have:=h1.jr hf;omega) h2.size oB hB hs X;exact⟨g1,fun vv ss hv=>g2 vv ss (hv.dm gS)⟩
theorem sS.before(h0:eQ base a v p0)(f3:Fr aS a w3)(VZ:a.heap.size<=n)(hn:w3.heap[n]?=some (.cells z t (0,0)))(h:dk base w3 B cs off v p u)(oB:base<=a.heap.size)(hB:B<a.heap.size)(hs:t≠9)(X:bS) :
  sS base a B off cs v p n X t (u.setRow n X)/\∀vv ss,dv base u vv ss->dv base (u.setRow n X) vv ss:=by
 obtain⟨v',h1,h2,h3,h4⟩:=h;have hv:¬v.j_ n:=fun hf=>by have:=h0.jr hf;omega
 have hl:=bj hn;refine sS.core h1 (fV (S:=zV B v) (f3.mono (fun _ _ h=>absurd h id)) h2 (fun _ _ h=>h)) (fun k hk=>?_) h4 (h2.keep hn (fun e=>?_)) (fun hf=>?_) VZ oB hB hs X
 ·rcases h3 k hk with h|h
  ·exact Or.inl h
  ·exact Or.inr (aG f3.size h)
 ·rcases e with e|e
  ·omega
  ·exact hv e
 ·rcases h3 n hf with h|h
  ·exact hv h
  ·omega
end
theorem OwnRows.mono{e:TypeId}(h:OwnRows b e k w v xs)(hb:b'<=b):OwnRows b' e k w v xs:=⟨h.1,World.ownsRow.mono h.2 hb⟩
theorem eP.mono{ps:List eo}(h:eP b w n v ps)(hb:b'<=b):eP b' w n v ps:=⟨aG hb h.low,h.eL,OwnRows.mono h.rows hb⟩
def cpP(qv:Nat->cV)(k i:Nat):aX:=if i<k then(qv i).cells else [.pointer none,.pointer none,.slice none 0 0]
def cpC(qv:Nat->cV)(now:Int)(k:Nat):aX:=cpP qv k 0++(cpP qv k 1++(cpP qv k 2++(cpP qv k 3++[.int .i64 now])))
theorem Wr(qv:Nat->cV)(now:Int)(hk:k<4)(v:cV):pn (cpC qv now k) (k*3) v=cpC (yr qv k v) now (k+1):=by
 unfold pn cpC cpP yr cV.cells
 match k,hk with
 |0,_=>rfl
 |1,_=>rfl
 |2,_=>rfl
 |3,_=>rfl
theorem aeY(qv:Nat->cV)(now:Int)(hk:k<4):(cpC qv now k)[k*3]?=some (.pointer none)/\(cpC qv now k)[k*3+1]?=some (.pointer none)/\(cpC qv now k)[k*3+2]?=some (.slice none 0 0):=by
 unfold cpC cpP
 match k,hk with
 |0,_=>exact⟨rfl,rfl,rfl⟩
 |1,_=>exact⟨rfl,rfl,rfl⟩
 |2,_=>exact⟨rfl,rfl,rfl⟩
 |3,_=>exact⟨rfl,rfl,rfl⟩
structure LP (base:Nat) (w:World) (x:dI) (k:Nat) (qv:Nat->cV) (W:World):Prop where
 fr:Fr aS w W
 eL:W.heap[w.heap.size]?=some (.cells (cpC qv x.now k).toArray 86 (0,0))
 part:∀i,i<k->eQ base W (qv i) (x.part i)
 new:∀i,i<k->∀j,(qv i).j_ j->w.heap.size<j
 apart:∀i j,i<k->j<k->i≠j->∀n,(qv i).j_ n->¬(qv j).j_ n
theorem LP.step{U:World}{qv:Nat->cV}(h:LP base w x k qv W)(hb:base<=w.heap.size)(hk:k<4)(hU:Fr aS W U){v:cV}(hp:eQ base U v (x.part k))(hn:∀j,v.j_ j->W.heap.size<=j) :
  LP base w x (k+1) (yr qv k v) (((U.setCell ⟨w.heap.size,k*3,none⟩ (.pointer (some ⟨v.b,0,none⟩))).setCell ⟨w.heap.size,k*3+1,none⟩ (.pointer (some ⟨v.k,0,none⟩))).setCell ⟨w.heap.size,k*3+2,none⟩ v.cv):=by
 have hN:w.heap.size<W.heap.size:=bj h.eL;have pY:=hU.keep h.eL id;have ET:Fr (one w.heap.size) U (((U.setCell ⟨w.heap.size,k*3,none⟩ (.pointer (some ⟨v.b,0,none⟩))).setCell ⟨w.heap.size,k*3+1,none⟩ (.pointer (some ⟨v.k,0,none⟩))).setCell ⟨w.heap.size,k*3+2,none⟩ v.cv) :=
  (((ae (one w.heap.size) U).setCell (p:=⟨w.heap.size,k*3,none⟩) (fun _=>rfl) _).setCell (p:=⟨w.heap.size,k*3+1,none⟩) (fun _=>rfl) _).setCell (p:=⟨w.heap.size,k*3+2,none⟩) (fun _=>rfl) _
 have mS:rY base U (one w.heap.size):=by
  rintro j rfl _;exact⟨hb,fun c f e=>by rw[pY]at e;cases e⟩
 have e1:=cg pY (k*3) (.pointer (some ⟨v.b,0,none⟩));have e2:=cg e1 (k*3+1) (.pointer (some ⟨v.k,0,none⟩));have e3:=cg e2 (k*3+2) v.cv;have old:∀i,i<k->∀j,(qv i).j_ j->j<W.heap.size:=fun i hi j hj=>(h.part i hi).jr hj
 refine⟨(((h.fr.trans hU).gJ (p:=⟨w.heap.size,k*3,none⟩) (ay _) _).gJ (p:=⟨w.heap.size,k*3+1,none⟩) (ay _) _).gJ (p:=⟨w.heap.size,k*3+2,none⟩) (ay _) _,?_,fun i hi=>?_,fun i hi j hj=>?_,fun i j hi hj QR n Jz AU=>?_⟩
 ·rw[e3, <-Wr qv x.now hk v];unfold pn;simp
 ·by_cases MK:i=k
  ·subst MK;rw[sR];exact hp.fr ET mS (fun j hj e=>by have e':j=w.heap.size:=e;have:=hn j hj;omega)
  ·rw[mI qv v MK];have ajG:i<k:=ab;exact((h.part i ajG).dm hU).fr ET mS (fun j hj e=>by have e':j=w.heap.size:=e;have:=h.new i ajG j hj;omega)
 ·by_cases MK:i=k
  ·subst MK;rw[sR]at hj;have:=hn j hj;omega
  ·rw[mI qv v MK]at hj;exact h.new i ab j hj
 ·by_cases MK:i=k
  ·subst MK;rw[sR]at Jz;rw[mI qv v (kZ QR)]at AU;have a1:=hn n Jz;have a2:=old j ab n AU;omega
  ·rw[mI qv v MK]at Jz;by_cases hjk:j=k
   ·subst hjk;rw[sR]at AU;have a1:=hn n AU;have a2:=old i ab n Jz;omega
   ·rw[mI qv v hjk]at AU;exact h.apart i j ab ab QR n Jz AU
theorem LP.done{qv:Nat->cV}(h:LP base w x 4 qv W)(hb:base<=w.heap.size):cD base W w.heap.size qv x :=
 ⟨hb,h.eL,h.part,h.apart⟩
def ajH(base:Nat)(w:World)(x:dI)(t:Value)(wr:World):Prop:=∃(k:Nat) (qv:Nat->cV),k<=4/\t=.int .i64 k/\LP base w x k qv wr
def GU(base:Nat)(w:World)(x:dI)(e:Ending)(w':World):Prop :=
 ∃B qv,e=.returned (.pointer (some ⟨B,0,none⟩))/\cD base w' B qv x/\Fr aS w w'/\∀j,lN B qv j->w.heap.size<=j
theorem Bm(base:Nat)(w:World)(B:Nat)(pv:Nat->cV)(x:dI)(h:cD base w B pv x)(hs:∀i,i<4->(x.part i).bH.length<68719476736/\(x.part i).waits.length<68719476736/\(x.part i).book.length<1000000/\(x.part i).dL.length<=1000000) :
  aB 38 #[.pointer (some ⟨B,0,none⟩)] w (GU base w x):=by
 have hb:base<=w.heap.size:=aG h.low (Nat.le_of_lt h.lt);obtain⟨x1,mM⟩:∃x1,x1=w.alloc (.cells #[.pointer none,.pointer none,.slice none 0 0,.pointer none,.pointer none,.slice none 0 0,.pointer none,.pointer none,.slice none 0 0,.pointer none,.pointer none,.slice none 0 0,.int .i64 x.now] 86):=⟨_,rfl⟩;have dr:Fr aS w x1:=by rw[mM];exact(ae _ _).alloc _
 have h0:LP base w x 0 pv x1:=⟨dr,by rw[mM];exact aC _ _,fun i hi=>absurd hi (ct i),fun i hi=>absurd hi (ct i),fun i j hi=>absurd hi (ct i)⟩;have H0:=O h0;have HW:=O h;have HB:=O hb;have HS:=O hs;have pY:=h.eL;have rU:=dr.keep h.eL id;unfold iQ cV.cells at pY rU;simp only[List.cons_append,List.nil_append]at pY rU;have aav:w.cell? ⟨B,12,none⟩=some (.int .i64 x.now):=by simp only[World.cell?,pY];rfl
 have c0:x1.cell? ⟨B,0,none⟩=some (.pointer (some ⟨(pv 0).b,0,none⟩)):=by simp only[World.cell?,rU];rfl
 have c1:x1.cell? ⟨B,1,none⟩=some (.pointer (some ⟨(pv 0).k,0,none⟩)):=by simp only[World.cell?,rU];rfl
 have c2:x1.cell? ⟨B,2,none⟩=some ((pv 0).cv):=by simp only[World.cell?,rU];rfl
 have c3:x1.cell? ⟨B,3,none⟩=some (.pointer (some ⟨(pv 1).b,0,none⟩)):=by simp only[World.cell?,rU];rfl
 have c4:x1.cell? ⟨B,4,none⟩=some (.pointer (some ⟨(pv 1).k,0,none⟩)):=by simp only[World.cell?,rU];rfl
 have c5:x1.cell? ⟨B,5,none⟩=some ((pv 1).cv):=by simp only[World.cell?,rU];rfl
 have c6:x1.cell? ⟨B,6,none⟩=some (.pointer (some ⟨(pv 2).b,0,none⟩)):=by simp only[World.cell?,rU];rfl
 have c7:x1.cell? ⟨B,7,none⟩=some (.pointer (some ⟨(pv 2).k,0,none⟩)):=by simp only[World.cell?,rU];rfl
 have c8:x1.cell? ⟨B,8,none⟩=some ((pv 2).cv):=by simp only[World.cell?,rU];rfl
 have c9:x1.cell? ⟨B,9,none⟩=some (.pointer (some ⟨(pv 3).b,0,none⟩)):=by simp only[World.cell?,rU];rfl
 have GA:x1.cell? ⟨B,10,none⟩=some (.pointer (some ⟨(pv 3).k,0,none⟩)):=by simp only[World.cell?,rU];rfl
 have TB:x1.cell? ⟨B,11,none⟩=some ((pv 3).cv):=by simp only[World.cell?,rU];rfl
 have Zy:=O (show∀k:Nat,k<4->∀u,Sem.run prog (Instr.index 84 (.agg #[.pointer (some ⟨(pv 0).b,0,none⟩),.pointer (some ⟨(pv 0).k,0,none⟩),(pv 0).cv,.pointer (some ⟨(pv 1).b,0,none⟩),.pointer (some ⟨(pv 1).k,0,none⟩),(pv 1).cv,.pointer (some ⟨(pv 2).b,0,none⟩),.pointer (some ⟨(pv 2).k,0,none⟩),(pv 2).cv,.pointer (some ⟨(pv 3).b,0,none⟩),.pointer (some ⟨(pv 3).k,0,none⟩),(pv 3).cv]) (.int .i64 k)) u=.ok (.agg #[.pointer (some ⟨(pv k).b,0,none⟩),.pointer (some ⟨(pv k).k,0,none⟩),(pv k).cv]) u from fun k hk u=>by
  rcases(show k=0\/k=1\/k=2\/k=3 from ab)with rfl|rfl|rfl|rfl
  ·kernel_rfl
  ·kernel_rfl
  ·kernel_rfl
  ·kernel_rfl)
 have MU:=O mM;rw[mM]at c0 c1 c2 c3 c4 c5 c6 c7 c8 c9 GA TB;clear h0 h hb hs pY rU mM dr;go_enter func38,ntmps38;go_wp2_with fail
 rw[<-MU.o];clear c0 c1 c2 c3 c4 c5 c6 c7 c8 c9 GA TB aav;go_loopw[16] (ajH base w x) (fun i _=>4-(intOf i).toNat)
 case atStart=>exact⟨0,pv,aQ _,rfl,H0.o⟩
 case round =>
  obtain⟨k,qv,hk,rfl,hcp⟩:=hrel;by_cases fo:k<4
  ·have pq:(k:Int)<4:=ab;have N7:¬(k:Int)<0:=ab;have apt:(0:Int)<=(k:Int):=ab;have ae0:¬(4:Int)<=(k:Int):=ab;have wR:=Zy.o k fo;have TH:=O hcp;have HKS:=O fo;obtain⟨cvk,apu⟩:∃c,c=(pv k).cv:=⟨_,rfl⟩;obtain⟨ca,cc,MV⟩:=(HW.o.part k fo).dL.form;rw[ai]at MV;rw[MV]at wR
   obtain⟨y1,EP⟩:∃y1,y1=wr.alloc (.cells #[.pointer (some ⟨(pv k).b,0,none⟩),.pointer (some ⟨(pv k).k,0,none⟩),.slice ca (x.part k).dL.length cc] 83):=⟨_,rfl⟩;have hfy:Fr aS wr y1:=by rw[EP];exact(ae _ _).alloc _
   have qW:y1.heap[wr.heap.size]?=some (.cells #[.pointer (some ⟨(pv k).b,0,none⟩),.pointer (some ⟨(pv k).k,0,none⟩),.slice ca (x.part k).dL.length cc] 83 (0,0)):=by rw[EP];exact aC _ _
   have HWY:=O (HW.o.dm (hcp.fr.trans hfy));have HFY:=O hfy;have HBY:=O qW;have Yj:=O EP;have HCF:=O MV;have HC:=O (show∀U,Fr aS y1 U->(U.cell? ⟨wr.heap.size,0,none⟩=some (.pointer (some ⟨(pv k).b,0,none⟩))/\U.cell? ⟨wr.heap.size,1,none⟩=some (.pointer (some ⟨(pv k).k,0,none⟩))/\U.cell? ⟨wr.heap.size,2,none⟩=some (.slice ca (x.part k).dL.length cc))from fun U hU=>by
    have j:=hU.keep HBY.o id;refine⟨?_,?_,?_⟩<;>simp[World.cell?,j])
   have HKB:=O (show∀U,Fr aS y1 U->aB 79 #[.pointer (some ⟨(pv k).b,0,none⟩)] U (Lg base U (x.part k).bH (x.part k).waits)from fun U hU=>Vp base U (pv k).b (pv k).gv (pv k).wv (x.part k).bH (x.part k).waits ((HWY.o.dm hU).part k HKS.o).oz (HS.o k HKS.o).1 (HS.o k HKS.o).2.1)
   have HKK:=O (show∀U,Fr aS y1 U->aB 80 #[.pointer (some ⟨(pv k).k,0,none⟩)] U fun e w'=>∃b' v',e=.returned (.pointer (some ⟨b',0,none⟩))/\eP U.heap.size w' b' v' (x.part k).book/\Fr aS U w' from fun U hU=>IP base U (pv k).k (pv k).kv (x.part k).book ((HWY.o.dm hU).part k HKS.o).book (HS.o k HKS.o).2.2.1)
   have HKC:=O (show∀U,Fr aS y1 U->aB 81 #[.slice ca (x.part k).dL.length cc] U fun e w'=>∃v',e=.returned v'/\OwnRows U.heap.size 97 4 w' v' ((x.part k).dL.map ln)/\Fr aS U w' from fun U hU=>by
    have hh:=((HWY.o.dm hU).part k HKS.o).dL.at;rw[HCF.o]at hh;exact Qm _ _ U hh (by rw[ai];have:=(HS.o k HKS.o).2.2.2;omega))
   clear hcp hfy qW EP MV apu cvk fo;go_wp2_with fail
   rw[<-Yj.o];refine wp_region_held_drew (S:=(fun U=>U.cell? ⟨wr.heap.size,0,none⟩=some (.pointer (some ⟨(pv k).b,0,none⟩))/\U.cell? ⟨wr.heap.size,1,none⟩=some (.pointer (some ⟨(pv k).k,0,none⟩))/\U.cell? ⟨wr.heap.size,2,none⟩=some (.slice ca (x.part k).dL.length cc))) af (HC.o _ (aA (ae _ _))) ?_;intro Az;refine aW 0 20 rfl ?_;refine aW 1 21 rfl ?_;refine aW 2 22 rfl ?_;refine aW 3 23 rfl ?_
   refine aW 5 25 rfl ?_;refine aW 6 26 rfl ?_;refine aW 8 28 rfl ?_;refine aW 9 29 rfl ?_;refine aW 12 32 rfl ?_;refine aW 13 33 rfl ?_;refine eT 4 rfl fun K hK=>?_;go_simp;refine(HKB.o _ (aA (ae aS y1))).mono ?_;rintro e u1⟨kb,kg,kw,rfl,hb,hf,hn⟩;have lC:=O ((aA (ae aS y1)).trans hf);have JC:=O hf;have HGB:=O hb;have HGN:=O hn;clear hb hf hn;refine hK.out _ _ (HC.o _ lC.o) ?_;intro yu;clear hK Az K
   try simp only[Act.put,sA,sB,sC]
   refine eT 7 rfl fun K hK=>?_;go_simp;refine(HKK.o _ (lC.o)).mono ?_;rintro e u2⟨kk,kv,rfl,hb,hf⟩;have f_:=O ((lC.o).trans hf);have Yg:=O hf;have HGK:=O hb;clear hb hf;refine hK.out _ _ (HC.o _ f_.o) ?_;intro B7;clear hK yu K
   try simp only[Act.put,sA,sB,sC]
   refine eT 10 rfl fun K hK=>?_;go_simp;refine(HKC.o _ (f_.o)).mono ?_;rintro e u3⟨kc,rfl,hb,hf⟩;have iA:=O ((f_.o).trans hf);have HQ3:=O hf;have HGC:=O hb;obtain⟨na,nc,Wj⟩:=hb.form;rw[ai]at Wj;subst Wj;clear hb hf;refine hK.out _ _ (HC.o _ iA.o) ?_;intro Fu;clear hK B7 K
   try simp only[Act.put,sA,sB,sC]
   refine aW 11 31 rfl ?_;refine aW 14 34 rfl ?_;refine eT 15 rfl fun K hK=>?_
   have ir:=TH.o.step HB.o HKS.o (HFY.o.trans iA.o) (v:=⟨kb,kg,kw,kk,kv,.slice na (x.part k).dL.length nc⟩) ⟨HGB.o.dm (Yg.o.trans HQ3.o),(eP.mono HGK.o (aG (aG HB.o TH.o.fr.size) (HFY.o.trans (lC.o)).size)).dm HQ3.o,OwnRows.fr (OwnRows.mono HGC.o (aG (aG HB.o TH.o.fr.size) (HFY.o.trans (f_.o)).size)) (ae _ _) (fun _ _ h=>h)⟩ (by
    rintro j(hj|hj|hj)
    ·exact aG (HFY.o.trans (aA (ae _ _))).size (HGN.o j hj)
    ·exact aG (HFY.o.trans (lC.o)).size (HGK.o.nC hj)
    ·exact aG (HFY.o.trans (f_.o)).size (HGC.o.block _ hj))
   have mj:=O ir;have sX:=iA.o.keep (HFY.o.keep TH.o.eL id) id;obtain⟨q0,q1,q2⟩:=aeY qv x.now HKS.o;have c0:u3.cell? ⟨w.heap.size,k*3,none⟩=some (.pointer none):=by simp[World.cell?,sX,q0]
   have c1:u3.cell? ⟨w.heap.size,k*3+1,none⟩=some (.pointer none):=by simp[World.cell?,sX,q1]
   have c2:u3.cell? ⟨w.heap.size,k*3+2,none⟩=some (.slice none 0 0):=by simp[World.cell?,sX,q2]
   have f0:∀j,u3.frozen? ⟨w.heap.size,j,none⟩=false:=fun j=>by simp[World.frozen?,sX]
   have f1:=f0 (k*3);have f2:=f0 (k*3+1);have f3:=f0 (k*3+2);obtain⟨W9,hw9⟩:∃W9,W9=((u3.setCell ⟨w.heap.size,k*3,none⟩ (.pointer (some ⟨kb,0,none⟩))).setCell ⟨w.heap.size,k*3+1,none⟩ (.pointer (some ⟨kk,0,none⟩))).setCell ⟨w.heap.size,k*3+2,none⟩ (.slice na (x.part k).dL.length nc):=⟨_,rfl⟩
   have HS9:=O (show LP base w x (k+1) (yr qv k ⟨kb,kg,kw,kk,kv,.slice na (x.part k).dL.length nc⟩) W9 by rw[hw9];exact mj.o);have ET:Fr (one w.heap.size) u3 W9:=by rw[hw9];exact(((ae (one w.heap.size) u3).setCell (p:=⟨w.heap.size,k*3,none⟩) (fun _=>rfl) _).setCell (p:=⟨w.heap.size,k*3+1,none⟩) (fun _=>rfl) _).setCell (p:=⟨w.heap.size,k*3+2,none⟩) (fun _=>rfl) _
   have Om:=ET.keep (iA.o.keep HBY.o id) (fun e=>by have e':wr.heap.size=w.heap.size:=e;have:=bj TH.o.eL;omega);have HB9:=O Om;clear ET Om;clear ir q0 q1 q2 f0 sX;go_simp;rw[<-hw9];clear hw9;have Om:=HB9.o;refine hK.out _ _ ⟨by simp[World.cell?,Om],by simp[World.cell?,Om],by simp[World.cell?,Om]⟩ ?_;intro Bh;clear hK Fu K Bh Om
   try simp only[Act.put,sA,sB,sC]
   refine wpAnyH_done af ?_ _;go_wp2_with fail
   go_roundw
   case rel=>exact⟨k+1,_,ab,bg,HS9.o⟩
   case measure=>simp[intOf];omega
  ·have Kv:k=4:=ab;subst Kv;have HD:=O (hcp.done HB.o);have tA:=O hcp.fr;have HNW:=O (show∀j,lN w.heap.size qv j->w.heap.size<=j from fun j hj=>by
    rcases hj with rfl|⟨i,hi,hj⟩
    ·exact ay _
    ·exact Nat.le_of_lt (hcp.new i hi j hj))
   clear hcp H0;go_wp2;go_ret;exact⟨_,_,rfl,HD.o,tA.o,HNW.o⟩
theorem Sv:(prog.info? 97).map (fun i=>(i.zero,i.size,i.bytes))=some (some (.agg Yi),4,40):=af
theorem OG{w4:World}{l:List (gA×Int)}{c:gA×Int}{gg cap:Nat}(h:w4.ownsRow base 97 4 (.slice (some ⟨gg,0,none⟩) (l.length+1) cap) (l.length+1) ((l.map ln).flatten++ln c)) :
  OwnRows base 97 4 w4 (.slice (some ⟨gg,0,none⟩) (l.length+1) cap) ((l++[c]).map ln):=by
 refine⟨fun x hx=>?_,?_⟩
 ·obtain⟨q,_,rfl⟩:=b_.1 hx;exact⟨rfl,G7 q⟩
 ·rw[bG,en,aN,ai];simpa using h
theorem OH(base:Nat)(w:World)(B off:Nat)(cs:aX)(v:cV)(p:dS)(o:jQ)(hs:List ig)(h:eQ base w v p)(ha:gT w B cs off v)(oB:base<=B)(hf:gI w o hs)(hk:nr p) :
  aB 35 #[.pointer (some ⟨B,off,none⟩),.agg o.cells.toArray] w (eI base w B cs off v (kj p (o.dR hs))):=by
 have uM:B<w.heap.size:=bj ha.eL;have GP:¬v.j_ B:=h.fi ha.eL ag;obtain⟨ah,ch,gH⟩:=hf.gZ;obtain⟨w2,eE⟩:∃w2,w2=(w.alloc (.cells o.cells.toArray 41)).alloc (.cells bT 30):=⟨_,rfl⟩;have dB:Fr aS w w2:=by rw[eE];exact((ae aS w).alloc _).alloc _
 have k1:w2.heap[w.heap.size]?=some (.cells o.cells.toArray 41 (0,0)):=by rw[eE];exact((ae aS _).alloc _).keep (aC _ _) id
 have k2:w2.heap[w.heap.size+1]?=some (.cells bT 30 (0,0)):=by
  have h:=aC (w.alloc (.cells o.cells.toArray 41)) (.cells bT 30);rw[bO]at h;rw[eE];exact h
 have xb:w2.heap.size=w.heap.size+2:=by rw[eE];simp
 have Wg:=O (show∀U,Fr aS w2 U->U.heap[w.heap.size]?=some (.cells o.cells.toArray 41 (0,0))from fun U hU=>hU.keep k1 id);have CK:=O GP;have HH:=O h;have HA:=O ha;have HF:=O hf;have lD:=O gH;have HK:=O hk;have f_:=O dB;have mN:=O k1;have qO:=O k2;have ph:=O (show base<=w.heap.size from ab);have xe:=O oB;have o7:=O uM;have RV:=O eE
 obtain⟨a0,a1,a2,a3,a4,a5,a6,a7,a8,a9,jI,jJ,a12,jG,jK,jo,jV,jW,jX,ka,a20,a21⟩:=ep k1 gH;rw[eE]at a0 a1 a2 a3 a4 a5 a6 a7 a8 a9 jI jJ a12 jG jK jo jV jW jX ka a20 a21;rw[d_ gH]at eE a0 a1 a2 a3 a4 a5 a6 a7 a8 a9 jI jJ a12 jG jK jo jV jW jX ka a20 a21 ⊢;unfold bT at eE a0 a1 a2 a3 a4 a5 a6 a7 a8 a9 jI jJ a12 jG jK jo jV jW jX ka a20 a21;have nI:=O eE;clear eE gH dB k1 k2 h ha hf GP hk
 go_enter func35,ntmps35;have Sc:=HK.o.tP;by_cases akl:o.cert<0
 ·have HR:=O (show kj p (o.dR hs)=(p,rep 7)by
   unfold kj;rw[az (show(o.dR hs).cert<0 from akl)])
  have HP:=O (mo HH.o HA.o f_.o);have si:=nI.o;subst si;go_wp2_with (first|((with_reducible refine cW 30 ?_);refine aF rfl 30 (.tmp 4) (.tmp 9) rfl (w.heap.size+1) #[.int .i64 7,.string ⟨#[]⟩,.int .i64 0] rfl rfl _ bT qO.o (bf _ rfl) rfl bW ?_)|fail)
  refine aU (bu bC _ _ (w.heap.size+1) 30 #[.int .i64 7,.string ⟨#[]⟩,.int .i64 0] (0,0) _ rfl (aY _ (w.heap.size+1) _ _ _ _ qO.o) underlying30 rfl (bf _ rfl)) rfl ?_;unfold eI;rw[HR.o];exact⟨rfl,dz HP.o ph.o o7.o (bV _) qO.o eN ag _⟩
 ·have HR:=O (show kj p (o.dR hs)=({p with dL:=xC p.dL o.aJ.o o.cert},rep 1)by
   unfold kj;rw[aq (show¬(o.dR hs).cert<0 from akl)];rfl)
  have DR:=O (Mc base w2 B off cs v p o.aJ.o (HH.o.dm f_.o) (HA.o.dm f_.o) xe.o);unfold gA.cells at DR;have hx:=nI;have si:=nI.o;go_wp2_with fail
  rw[<-si];refine DR.o.mono ?_;rintro e u3⟨rfl,hp3⟩;clear DR a0 a1 a2 a3 a4 a5 a6 a7 a8 a9 jI jJ a12 jG jK jo jV jW jX ka a20 a21 hx si;obtain⟨v3,i3,f3,acD,akm⟩:=hp3;have aa3:=ix (HA.o.dm f_.o) akm;have o3:=eK (HH.o.dm f_.o) f3 (show w2.heap[w.heap.size]?=_ from mN.o) jl ab;have r3:=eK (HH.o.dm f_.o) f3 (show w2.heap[w.heap.size+1]?=_ from qO.o) dM ab
  obtain⟨a0,a1,a2,a3,a4,a5,a6,a7,a8,a9,jI,jJ,a12,jG,jK,jo,jV,jW,jX,ka,a20,a21⟩:=ep o3 lD.o;obtain⟨fs,kH⟩:∃fs,fs=Lr o.aJ.o p.dL:=⟨_,rfl⟩;have zC:fs.length<=8:=by rw[kH];unfold Lr;exact aG (bU _ _) Sc.2.2.2
  rw[<-kH]at i3;obtain⟨av,cv,hcv⟩:=i3.dL.form;rw[ai]at hcv;have d2:=aa3.lT;have e2:=aa3.free (off+2);rw[hcv]at d2;have cR:u3.ownsRow base 97 4 (.slice av fs.length cv) fs.length (fs.map ln).flatten:=by
   have h:=i3.dL.2;rw[hcv,ai]at h;exact h
  have hB3:¬own (.slice av fs.length cv) B:=fun hb=>i3.fi aa3.eL ag (Or.inr (Or.inr (by rw[hcv];exact hb)));have akn:B<u3.heap.size:=bj aa3.eL;have awU:base<=u3.heap.size:=by have:=xe.o;omega
  obtain⟨i0,qA,po,k_,lp⟩:=info_parts Sv;have xc:=O (G7 (o.aJ.o,o.cert));have I3:=O i3;have A3:=O aa3;have F3:=O f3;have FT3:=O acD;have O3:=O o3;have R3:=O r3;have xg:=O hcv;have Ve:=O kH;clear i3 aa3 f3 acD o3 r3 akm hcv kH;go_wp2_with fail
  go_region_law ((with_reducible refine mP ⟨some 29,_,_,_,_,_⟩ ?_)
                 refine step_append_lies _ bC _ _ _ bC base 97 i0 _ 4 40 underlying81 qA po k_ lp rfl ab (.slice av fs.length cv) fs.length _ bC (by repeat(first|exact cR|apply World.ownsRow.alloc|apply World.ownsRow.drew)) ⟨u3.heap.size,0,none⟩ 1 1 (ln (o.aJ.o,o.cert)) bC bC (kR u3 (ln (o.aJ.o,o.cert)) _) xc.o ab fx ab bI (u3.heap.size+1) aR ?_
                 intro gg cap w4 fa jC dT Lb
                 have jZ:Fr (own (.slice av fs.length cv)) u3 w4:=fq (by repeat(first|exact ae _ _|apply aA|apply bz)) jC (fun _ hk _=>hk)
                 have k4:w4.cell? ⟨B,off+2,none⟩=some (.slice av fs.length cv):=(jZ.cell (p:=⟨B,off+2,none⟩) akn hB3).trans d2
                 have e4:w4.frozen? ⟨B,off+2,none⟩=false:=(jZ.frozen (p:=⟨B,off+2,none⟩) akn hB3).trans e2)
  all_goals
   have hP:=dk.dL I3.o A3.o xe.o (OG fa) (by rw[xg.o];exact jZ) (fun k hk=>by
    have e:gg=k:=by simpa[own,Value.ownBlock]using hk
    subst e;rcases dT with dT|dT
    ·exact Or.inl (by rw[xg.o];exact dT)
    ·exact Or.inr ab)
   clear fa jC jZ k4 e4 dT Lb cR a0 a1 a2 a3 a4 a5 a6 a7 a8 a9 jI jJ a12 jG jK jo jV jW jX ka a20 a21 d2 e2;generalize w4.setCell ⟨B,off+2,none⟩ (.slice (some ⟨gg,0,none⟩) (fs.length+1) cap)=w5 at *
   obtain⟨v5,i5,f5,Me,WR⟩:=hP;have aa5:=ix A3.o WR;have r5:=eK I3.o f5 R3.o dM ab;obtain⟨av5,cv5,aaJ⟩:=i5.dL.form;have AY:(List.map ln (fs++[(o.aJ.o,o.cert)])).length=fs.length+1:=aR;rw[AY]at aaJ;have d5:=aa5.lT;have e5:=aa5.free (off+2);rw[aaJ]at d5;have I5:=O i5;have F5:=O f5;have FT5:=O Me;have AA5:=O aa5;have R5:=O r5;have WS:=O aaJ;have Tw:=O AY;clear i5 f5 Me aa5 r5 aaJ AY WR
   by_cases h8:8<=fs.length
   ·have h8':(8:Int)<(fs.length:Int)+1:=ab;obtain⟨n,hn⟩:∃n:Nat,fs.length+1=n+8:=⟨fs.length+1-8,ab⟩;obtain⟨g5,rfl⟩:∃g5,av5=some ⟨g5,0,none⟩:=by
     rcases I5.o.dL.2.2 with ⟨hv,hq⟩|⟨g,cap,cur,hv,_⟩
     ·rw[Tw.o]at hq;omega
     ·rw[WS.o]at hv;injection hv with h1;exact⟨g,h1⟩
    have mq:=I5.o.dL;rw[WS.o, <-Tw.o]at mq;have qG:=Sf base g5 cv5 0 n (List.map ln (fs++[(o.aJ.o,o.cert)])) w5 mq ab (by rw[Tw.o];omega);rw[Tw.o,show 0+(fs.length+1-n)=8 from ab,List.take_zero,List.nil_append, <-List.map_drop]at qG;have Vy:=O qG;have HN:=O hn;have hce:=O (show xC p.dL o.aJ.o o.cert=(fs++[(o.aJ.o,o.cert)]).drop n by
     unfold xC;rw[<-Ve.o,aN,show fs.length+[(o.aJ.o,o.cert)].length-8=n from bI])
    have p_:(0:Int)<(fs.length:Int)+1-8:=ab;clear qG mq hn;go_wp2_with fail
    rw[show((fs.length:Int)+1-8)=(n:Int)from by have:=HN.o;omega];refine Vy.o.mono ?_;rintro e w7⟨rfl,Y5,ov⟩;clear Vy d5 e5;have LO:Fr (own v5.cv) w5 w7:=ov.mono (fun k _ hk=>by rw[WS.o,show k=g5 from hk];rfl);have hP7:=dk.dL I5.o AA5.o xe.o Y5 LO (fun k hk=>Or.inl (by rw[WS.o];exact hk));have hB5:¬own v5.cv B:=fun hb=>I5.o.fi AA5.o.eL ag (Or.inr (Or.inr hb));have ap':=LO.keep AA5.o.eL hB5
    have a7:gT w7 B _ off v5:=AA5.o.fr LO hB5;have d7:=a7.lT;have e7:=a7.free (off+2);rw[WS.o]at d7;have r7:=O (eK I5.o (by obtain⟨_,_,h,_⟩:=hP7;exact h) R5.o dM ab);have HP:=O (show dk base w2 B cs off v {p with dL:=xC p.dL o.aJ.o o.cert} _ from by
     rw[hce.o];exact gL F3.o FT3.o (gL F5.o FT5.o hP7))
    clear hP7 Y5 ov LO ap' a7;go_wp2_with (first|((with_reducible refine cW 30 ?_);refine aF rfl 30 (.tmp 4) (.tmp 49) rfl (w.heap.size+1) #[.int .i64 1,.string ⟨#[]⟩,.int .i64 0] rfl rfl _ bT r7.o (bf _ rfl) rfl bW ?_)|fail)
    refine aU (bu bC _ _ (w.heap.size+1) 30 #[.int .i64 1,.string ⟨#[]⟩,.int .i64 0] (0,0) _ rfl (aY _ (w.heap.size+1) _ _ _ _ r7.o) underlying30 rfl (bf _ rfl)) rfl ?_;unfold eI;rw[HR.o];exact⟨rfl,dz (HP.o.after f_.o) ph.o o7.o (bV _) r7.o eN ag _⟩
   ·have h8':¬(8:Int)<(fs.length:Int)+1:=ab;have atf:¬(0:Int)<(fs.length:Int)+1-8:=ab;have hce:=O (show xC p.dL o.aJ.o o.cert=fs++[(o.aJ.o,o.cert)]by
     unfold xC;rw[<-Ve.o,aN,show fs.length+[(o.aJ.o,o.cert)].length-8=0 from bI,eG])
    have HP:=O (show dk base w2 B cs off v {p with dL:=xC p.dL o.aJ.o o.cert} w5 from by
     rw[hce.o];exact gL F3.o FT3.o ⟨v5,I5.o,F5.o,FT5.o,AA5.o.eL⟩)
    go_wp2_with (first|((with_reducible refine cW 30 ?_);refine aF rfl 30 (.tmp 4) (.tmp 49) rfl (w.heap.size+1) #[.int .i64 1,.string ⟨#[]⟩,.int .i64 0] rfl rfl _ bT R5.o (bf _ rfl) rfl bW ?_)|fail)
    refine aU (bu bC _ _ (w.heap.size+1) 30 #[.int .i64 1,.string ⟨#[]⟩,.int .i64 0] (0,0) _ rfl (aY _ (w.heap.size+1) _ _ _ _ R5.o) underlying30 rfl (bf _ rfl)) rfl ?_;unfold eI;rw[HR.o];exact⟨rfl,dz (HP.o.after f_.o) ph.o o7.o (bV _) R5.o eN ag _⟩
theorem WT(base:Nat)(w:World)(B off:Nat)(cs:aX)(v:cV)(p:dS)(o:jQ)(hs:List ig)(h:eQ base w v p)(ha:gT w B cs off v)(oB:base<=B)(hf:gI w o hs)(hk:nr p) :
  aB 36 #[.pointer (some ⟨B,off,none⟩),.agg o.cells.toArray] w (eI base w B cs off v (qm p (o.dR hs))):=by
 have uM:B<w.heap.size:=bj ha.eL;have GP:¬v.j_ B:=h.fi ha.eL ag;obtain⟨ah,ch,gH⟩:=hf.gZ;obtain⟨w2,eE⟩:∃w2,w2=(w.alloc (.cells o.cells.toArray 41)).alloc (.cells bT 30):=⟨_,rfl⟩;have dB:Fr aS w w2:=by rw[eE];exact((ae aS w).alloc _).alloc _
 have k1:w2.heap[w.heap.size]?=some (.cells o.cells.toArray 41 (0,0)):=by rw[eE];exact((ae aS _).alloc _).keep (aC _ _) id
 have k2:w2.heap[w.heap.size+1]?=some (.cells bT 30 (0,0)):=by
  have h:=aC (w.alloc (.cells o.cells.toArray 41)) (.cells bT 30);rw[bO]at h;rw[eE];exact h
 have xb:w2.heap.size=w.heap.size+2:=by rw[eE];simp
 have Wg:=O (show∀U,Fr aS w2 U->U.heap[w.heap.size]?=some (.cells o.cells.toArray 41 (0,0))from fun U hU=>hU.keep k1 id);have CK:=O GP;have HH:=O h;have HA:=O ha;have HF:=O hf;have lD:=O gH;have HK:=O hk;have f_:=O dB;have mN:=O k1;have qO:=O k2;have ph:=O (show base<=w.heap.size from ab);have xe:=O oB;have o7:=O uM;have RV:=O eE
 obtain⟨a0,a1,a2,a3,a4,a5,a6,a7,a8,a9,jI,jJ,a12,jG,jK,jo,jV,jW,jX,ka,a20,a21⟩:=ep k1 gH;rw[eE]at a0 a1 a2 a3 a4 a5 a6 a7 a8 a9 jI jJ a12 jG jK jo jV jW jX ka a20 a21;rw[d_ gH]at eE a0 a1 a2 a3 a4 a5 a6 a7 a8 a9 jI jJ a12 jG jK jo jV jW jX ka a20 a21 ⊢;unfold bT at eE a0 a1 a2 a3 a4 a5 a6 a7 a8 a9 jI jJ a12 jG jK jo jV jW jX ka a20 a21;have nI:=O eE
 obtain⟨w3,PV⟩:∃w3,w3=w2.alloc (.cells #[.bool o.aJ.o.aE,.string o.aJ.o.host,.int .i64 o.aJ.o.port] 32):=⟨_,rfl⟩;have iz:Fr aS w2 w3:=by rw[PV];exact(ae aS w2).alloc _
 have k3:w3.heap[w2.heap.size]?=some (.cells #[.bool o.aJ.o.aE,.string o.aJ.o.host,.int .i64 o.aJ.o.port] 32 (0,0)):=by rw[PV];exact aC _ _
 rw[xb]at k3;have iA:=O (f_.o.trans iz);have Sx:=O k3;have akp:=O (Wg.o w3 iz);have afq:=O (iz.keep qO.o id);have VX:=O PV;have H3:=O (HH.o.dm iA.o);have HA3:=O (HA.o.dm iA.o);have Sc:=HK.o.tP;have Ol:w3.heap.size=w.heap.size+1+1+1:=by rw[PV];simp;omega
 clear PV iz k3;clear eE gH dB k1 k2 h ha hf GP hk;go_enter func36,ntmps36;have hx:=nI;have si:=nI.o;cases iX:o.all
 case true =>
  rw[iX]at si;by_cases h9:o.what=9
  ·have HR:=O (show qm p (o.dR hs)=(yq,rep 1)by
    unfold qm;rw[az];show(o.all&&o.what==9)=true;rw[iX,h9];rfl)
   have HP:=O (dk.fresh H3.o HA3.o xe.o);rw[Ol]at HP;rw[h9]at si;have IM:gT ((w3.alloc (.cells #[.slice none 0 0,.slice none 0 0] 89)).alloc (.cells #[.slice none 0 0] 92)) B cs off v:=HA3.o.dm (((ae aS w3).alloc _).alloc _);have c0:=IM.cell0;have c1:=IM.h_;have c2:=IM.lT;have f0:=IM.free off;have f1:=IM.free (off+1);have f2:=IM.free (off+2)
   have Bj:=O (uK (uK (uK ((((ae aS w3).alloc (.cells #[.slice none 0 0,.slice none 0 0] 89)).alloc (.cells #[.slice none 0 0] 92)).keep afq.o id) (show w.heap.size+1≠B from ab) off (.pointer (some ⟨w.heap.size+1+1+1,0,none⟩))) (show w.heap.size+1≠B from ab) (off+1) (.pointer (some ⟨w.heap.size+1+1+1+1,0,none⟩))) (show w.heap.size+1≠B from ab) (off+2) (.slice none 0 0));clear IM
   go_wp2_with (first|((with_reducible refine cW 83 ?_);have OI:=hx;clear hx OI;rw[<-si];rw[<-VX.o];generalize (w3.alloc (.cells #[.slice none 0 0,.slice none 0 0] 89)).alloc (.cells #[.slice none 0 0] 92)=W5 at *)|((with_reducible refine cW 30 ?_);refine aF rfl 30 (.tmp 4) (.tmp 24) rfl (w.heap.size+1) #[.int .i64 1,.string ⟨#[]⟩,.int .i64 0] rfl rfl _ bT Bj.o (bf _ rfl) rfl bW ?_))
   refine aU (bu bC _ _ (w.heap.size+1) 30 #[.int .i64 1,.string ⟨#[]⟩,.int .i64 0] (0,0) _ rfl (aY _ (w.heap.size+1) _ _ _ _ Bj.o) underlying30 rfl (bf _ rfl)) rfl ?_;unfold eI;rw[HR.o];exact⟨rfl,dz (HP.o.after iA.o) ph.o o7.o (bV _) Bj.o eN ag _⟩
  ·have t9:(o.what==9)=false:=aL.2 h9;clear h9;have HSW:=O (show∀U,Fr aS w3 U->aB 70 #[.pointer (some ⟨v.b,0,none⟩),.agg #[.bool o.aJ.o.aE,.string o.aJ.o.host,.int .i64 o.aJ.o.port]] U (wU base U v.b v.gv v.wv p.bH p.waits o.aJ.o)from fun U hU=>Gr base U v.b v.gv v.wv p.bH p.waits o.aJ.o ((H3.o.dm hU).oz) ab)
   have G3:=O (show∀U,Fr (dw v.b v.gv v.wv) w3 U->(U.cell? ⟨B,off,none⟩=some (.pointer (some ⟨v.b,0,none⟩))/\U.cell? ⟨w.heap.size+2,0,none⟩=some (.bool o.aJ.o.aE)/\U.cell? ⟨w.heap.size+2,1,none⟩=some (.string o.aJ.o.host)/\U.cell? ⟨w.heap.size+2,2,none⟩=some (.int .i64 o.aJ.o.port))from fun U hU=>by
    have j1:=HA3.o.fr hU (fun hb=>CK.o (Or.inl hb));have j2:=hU.keep Sx.o (fun hb=>by
     obtain⟨c,t,e,hk⟩:=H3.o.oz.iw hb;rw[Sx.o]at e;cases e;revert hk;decide)
    exact⟨j1.cell0,by simp[World.cell?,j2]⟩)
   go_wp2_with fail
   rw[<-si, <-VX.o];clear a0 a1 a2 a3 a4 a5 a6 a7 a8 a9 jI jJ a12 jG jK jo jV jW jX ka a20 a21 si
   go_region_held3 (fun U=>Fr (dw v.b v.gv v.wv) w3 U/\U.cell? ⟨B,off,none⟩=some (.pointer (some ⟨v.b,0,none⟩))/\U.cell? ⟨w.heap.size+2,0,none⟩=some (.bool o.aJ.o.aE)/\U.cell? ⟨w.heap.size+2,1,none⟩=some (.string o.aJ.o.host)/\U.cell? ⟨w.heap.size+2,2,none⟩=some (.int .i64 o.aJ.o.port)) ((refine(fun hU=>⟨hU,G3.o _ hU⟩) ?_;first|exact aA (ae _ _)|assumption))
    ((first
     |(go_at_call 70;refine(HSW.o _ (aA (ae _ _))).mono ?_;rintro e u4 ⟨rfl,tV⟩;have afr:Fr (dw v.b v.gv v.wv) w3 u4:=(aA (ae _ _)).trans (by obtain⟨_,_,_,h,_⟩:=tV;exact h))))
   obtain⟨v4,i4,f4,Mf,WU⟩:=eR (H3.o.dm (aA (ae aS w3))) (HA3.o.dm (aA (ae aS w3))) CK.o tV;have a4:=ix HA3.o WU;have o4:=eK (H3.o.dm (aA (ae aS w3))) f4 (show w3.drew.heap[w.heap.size]?=_ from akp.o) jl ab;have r4:=eK (H3.o.dm (aA (ae aS w3))) f4 (show w3.drew.heap[w.heap.size+1]?=_ from afq.o) dM ab;have g4:=eK (H3.o.dm (aA (ae aS w3))) f4 (show w3.drew.heap[w.heap.size+2]?=_ from Sx.o) pQ ab
   have I4:=O i4;have F4:=O f4;have FT4:=O Mf;have AA4:=O a4;have O4:=O o4;have R4:=O r4;have G4:=O g4;obtain⟨a0,a1,a2,a3,a4,a5,a6,a7,a8,a9,jI,jJ,a12,jG,jK,jo,jV,jW,jX,ka,a20,a21⟩:=ep o4 lD.o;clear tV afr i4 f4 Mf a4 o4 r4 g4 WU G3 HSW;have HR:=O (show qm p (o.dR hs)=(uI p o.aJ.o,rep 1)by
    unfold qm;rw[aq,aq]
    ·rfl
    ·show¬(o.what==9)=true;rw[t9];exact gM
    ·show¬(o.all&&o.what==9)=true;rw[t9,Bool.and_false];exact gM)
   have HP:=O (show dk base w3 B cs off v (uI p o.aJ.o) u4 from dh (aA (ae aS w3)) ⟨v4,I4.o,F4.o,FT4.o,AA4.o.eL⟩);go_wp2_with (first|((with_reducible refine cW 30 ?_);refine aF rfl 30 (.tmp 4) (.tmp 43) rfl (w.heap.size+1) #[.int .i64 1,.string ⟨#[]⟩,.int .i64 0] rfl rfl _ bT R4.o (bf _ rfl) rfl bW ?_)|fail)
   refine aU (bu bC _ _ (w.heap.size+1) 30 #[.int .i64 1,.string ⟨#[]⟩,.int .i64 0] (0,0) _ rfl (aY u4 (w.heap.size+1) _ _ _ _ R4.o) underlying30 rfl (bf _ rfl)) rfl ?_;unfold eI;rw[HR.o];exact⟨rfl,dz (HP.o.after iA.o) ph.o o7.o (bV _) R4.o eN ag _⟩
 case false =>
  rw[iX]at si;have HSW:=O (show∀U,Fr aS w3 U->aB 70 #[.pointer (some ⟨v.b,0,none⟩),.agg #[.bool o.aJ.o.aE,.string o.aJ.o.host,.int .i64 o.aJ.o.port]] U (wU base U v.b v.gv v.wv p.bH p.waits o.aJ.o)from fun U hU=>Gr base U v.b v.gv v.wv p.bH p.waits o.aJ.o ((H3.o.dm hU).oz) ab)
  have G3:=O (show∀U,Fr (dw v.b v.gv v.wv) w3 U->(U.cell? ⟨B,off,none⟩=some (.pointer (some ⟨v.b,0,none⟩))/\U.cell? ⟨w.heap.size+2,0,none⟩=some (.bool o.aJ.o.aE)/\U.cell? ⟨w.heap.size+2,1,none⟩=some (.string o.aJ.o.host)/\U.cell? ⟨w.heap.size+2,2,none⟩=some (.int .i64 o.aJ.o.port))from fun U hU=>by
   have j1:=HA3.o.fr hU (fun hb=>CK.o (Or.inl hb));have j2:=hU.keep Sx.o (fun hb=>by
    obtain⟨c,t,e,hk⟩:=H3.o.oz.iw hb;rw[Sx.o]at e;cases e;revert hk;decide)
   exact⟨j1.cell0,by simp[World.cell?,j2]⟩)
  go_wp2_with fail
  rw[<-si, <-VX.o];clear a0 a1 a2 a3 a4 a5 a6 a7 a8 a9 jI jJ a12 jG jK jo jV jW jX ka a20 a21 si
  go_region_held3 (fun U=>Fr (dw v.b v.gv v.wv) w3 U/\U.cell? ⟨B,off,none⟩=some (.pointer (some ⟨v.b,0,none⟩))/\U.cell? ⟨w.heap.size+2,0,none⟩=some (.bool o.aJ.o.aE)/\U.cell? ⟨w.heap.size+2,1,none⟩=some (.string o.aJ.o.host)/\U.cell? ⟨w.heap.size+2,2,none⟩=some (.int .i64 o.aJ.o.port)) ((refine(fun hU=>⟨hU,G3.o _ hU⟩) ?_;first|exact aA (ae _ _)|assumption))
   ((first
    |(go_at_call 70;refine(HSW.o _ (aA (ae _ _))).mono ?_;rintro e u4 ⟨rfl,tV⟩;have afr:Fr (dw v.b v.gv v.wv) w3 u4:=(aA (ae _ _)).trans (by obtain⟨_,_,_,h,_⟩:=tV;exact h))))
  obtain⟨v4,i4,f4,Mf,WU⟩:=eR (H3.o.dm (aA (ae aS w3))) (HA3.o.dm (aA (ae aS w3))) CK.o tV;have a4:=ix HA3.o WU;have o4:=eK (H3.o.dm (aA (ae aS w3))) f4 (show w3.drew.heap[w.heap.size]?=_ from akp.o) jl ab;have r4:=eK (H3.o.dm (aA (ae aS w3))) f4 (show w3.drew.heap[w.heap.size+1]?=_ from afq.o) dM ab;have g4:=eK (H3.o.dm (aA (ae aS w3))) f4 (show w3.drew.heap[w.heap.size+2]?=_ from Sx.o) pQ ab
  have I4:=O i4;have F4:=O f4;have FT4:=O Mf;have AA4:=O a4;have O4:=O o4;have R4:=O r4;have G4:=O g4;obtain⟨a0,a1,a2,a3,a4,a5,a6,a7,a8,a9,jI,jJ,a12,jG,jK,jo,jV,jW,jX,ka,a20,a21⟩:=ep o4 lD.o;clear tV afr i4 f4 Mf a4 o4 r4 g4 WU G3 HSW;by_cases h9:o.what=9
  ·have t9:(o.what==9)=true:=by rw[h9];rfl
   clear h9;have HR:=O (show qm p (o.dR hs)=(N0 p o.aJ.o,rep 1)by
    unfold qm;rw[aq,az]
    ·rfl
    ·show(o.what==9)=true;exact t9
    ·show¬(o.all&&o.what==9)=true;rw[iX,kA];exact gM)
   have uO:=O (show∀U,Fr aS u4 U->aB 71 #[.pointer (some ⟨v4.k,0,none⟩),.agg #[.bool o.aJ.o.aE,.string o.aJ.o.host,.int .i64 o.aJ.o.port]] U (ua base U v4.k v4.kv p.book (eo.wa o.aJ.o))from fun U hU=>N3 base U v4.k v4.kv p.book o.aJ.o ((I4.o.dm hU).book) ab)
   have G3:=O (show∀U,Fr (iC v4.k v4.kv) u4 U->(U.cell? ⟨B,off+1,none⟩=some (.pointer (some ⟨v4.k,0,none⟩))/\U.cell? ⟨w.heap.size+2,0,none⟩=some (.bool o.aJ.o.aE)/\U.cell? ⟨w.heap.size+2,1,none⟩=some (.string o.aJ.o.host)/\U.cell? ⟨w.heap.size+2,2,none⟩=some (.int .i64 o.aJ.o.port))from fun U hU=>by
    have j1:=AA4.o.fr hU (fun hb=>I4.o.fi AA4.o.eL ag (Or.inr (Or.inl hb)));have j2:=hU.keep G4.o (fun hb=>I4.o.fi G4.o pQ (Or.inr (Or.inl hb)));exact⟨j1.h_,by simp[World.cell?,j2]⟩)
   go_wp2_with fail
   clear a0 a1 a2 a3 a4 a5 a6 a7 a8 a9 jI jJ a12 jG jK jo jV jW jX ka a20 a21
   go_region_held3 (fun U=>Fr (iC v4.k v4.kv) u4 U/\U.cell? ⟨B,off+1,none⟩=some (.pointer (some ⟨v4.k,0,none⟩))/\U.cell? ⟨w.heap.size+2,0,none⟩=some (.bool o.aJ.o.aE)/\U.cell? ⟨w.heap.size+2,1,none⟩=some (.string o.aJ.o.host)/\U.cell? ⟨w.heap.size+2,2,none⟩=some (.int .i64 o.aJ.o.port)) ((refine(fun hU=>⟨hU,G3.o _ hU⟩) ?_;first|exact aA (ae _ _)|assumption))
    ((first
     |(go_at_call 71;refine(uO.o _ (aA (ae _ _))).mono ?_;rintro e u5 ⟨rfl,Fk⟩;have aqa:Fr (iC v4.k v4.kv) u4 u5:=(aA (ae _ _)).trans (by obtain⟨_,_,h,_⟩:=Fk;exact h))))
   obtain⟨v5,i5,f5,Me,WR⟩:=oX (I4.o.dm (aA (ae aS u4))) (AA4.o.dm (aA (ae aS u4))) (I4.o.fi AA4.o.eL ag) Fk;have a5:=ix AA4.o WR;have r5:=eK (I4.o.dm (aA (ae aS u4))) f5 (show u4.drew.heap[w.heap.size+1]?=_ from R4.o) dM ab;have g5:=eK (I4.o.dm (aA (ae aS u4))) f5 (show u4.drew.heap[w.heap.size+2]?=_ from G4.o) pQ ab;have DR:=O (Mc base u5 B off _ v5 _ o.aJ.o i5 a5 xe.o)
   have l0:u5.cell? ⟨w.heap.size+2,0,none⟩=some (.bool o.aJ.o.aE):=by simp[World.cell?,g5]
   have l1:u5.cell? ⟨w.heap.size+2,1,none⟩=some (.string o.aJ.o.host):=by simp[World.cell?,g5]
   have l2:u5.cell? ⟨w.heap.size+2,2,none⟩=some (.int .i64 o.aJ.o.port):=by simp[World.cell?,g5]
   have I5:=O i5;have F5:=O f5;have FT5:=O Me;have R5:=O r5;unfold gA.cells at DR;clear Fk aqa i5 f5 Me a5 r5 g5 WR G3 uO;go_wp2_with fail
   refine DR.o.mono ?_;rintro e u6⟨rfl,hp6⟩;have Js:=O (show u6.heap[w.heap.size+1]?=_ from eK I5.o (by obtain⟨_,_,h,_⟩:=hp6;exact h) R5.o dM ab);have HP:=O (show dk base w3 B cs off v (N0 p o.aJ.o) u6 from dh (aA (ae aS w3)) (gL F4.o FT4.o (dh (aA (ae aS u4)) (gL F5.o FT5.o hp6))));clear DR hp6 l0 l1 l2
   go_wp2_with (first|((with_reducible refine cW 30 ?_);refine aF rfl 30 (.tmp 4) (.tmp 43) rfl (w.heap.size+1) #[.int .i64 1,.string ⟨#[]⟩,.int .i64 0] rfl rfl _ bT Js.o (bf _ rfl) rfl bW ?_)|fail)
   refine aU (bu bC _ _ (w.heap.size+1) 30 #[.int .i64 1,.string ⟨#[]⟩,.int .i64 0] (0,0) _ rfl (aY u6 (w.heap.size+1) _ _ _ _ Js.o) underlying30 rfl (bf _ rfl)) rfl ?_;unfold eI;rw[HR.o];exact⟨rfl,dz (HP.o.after iA.o) ph.o o7.o (bV _) Js.o eN ag _⟩
  ·have t9:(o.what==9)=false:=aL.2 h9;clear h9;have HR:=O (show qm p (o.dR hs)=(uI p o.aJ.o,rep 1)by
    unfold qm;rw[aq,aq]
    ·rfl
    ·show¬(o.what==9)=true;rw[t9];exact gM
    ·show¬(o.all&&o.what==9)=true;rw[t9,Bool.and_false];exact gM)
   have HP:=O (show dk base w3 B cs off v (uI p o.aJ.o) u4 from dh (aA (ae aS w3)) ⟨v4,I4.o,F4.o,FT4.o,AA4.o.eL⟩);go_wp2_with (first|((with_reducible refine cW 30 ?_);refine aF rfl 30 (.tmp 4) (.tmp 43) rfl (w.heap.size+1) #[.int .i64 1,.string ⟨#[]⟩,.int .i64 0] rfl rfl _ bT R4.o (bf _ rfl) rfl bW ?_)|fail)
   refine aU (bu bC _ _ (w.heap.size+1) 30 #[.int .i64 1,.string ⟨#[]⟩,.int .i64 0] (0,0) _ rfl (aY u4 (w.heap.size+1) _ _ _ _ R4.o) underlying30 rfl (bf _ rfl)) rfl ?_;unfold eI;rw[HR.o];exact⟨rfl,dz (HP.o.after iA.o) ph.o o7.o (bV _) R4.o eN ag _⟩
theorem Sy(o:iY):(dp o).1=0\/(dp o).1=1\/(dp o).1=4\/(dp o).1=7\/(dp o).1=8\/(dp o).1=10:=by
 unfold dp;split
 ·split
  ·simp
  ·split
   ·simp
   ·split
    ·simp
    ·split
     ·simp
     ·split
      ·simp
      ·split<;>simp
 ·simp
theorem lV.take{f:dI}(h:lV x)(g:lV f)(part:Int)(c:Nat):lV (kP x f part c):=by
 unfold kP;split
 ·refine⟨⟨fun k=>?_,?_⟩,fun k=>?_,fun k=>?_⟩
  ·show nr (if k=part.toNat then o8 c (x.part k) (f.part k)else x.part k);have a:=h.ok.part k;have b:=g.ok.part k;split
   ·unfold o8;cases c.testBit 0<;>cases c.testBit 1<;>cases c.testBit 2<;>exact⟨by first|exact a.uniq|exact b.uniq,by first|exact a.nat|exact b.nat,by first|exact a.tP.1|exact b.tP.1,by first|exact a.tP.2.1|exact b.tP.2.1,by first|exact a.tP.2.2.1|exact b.tP.2.2.1,by first|exact a.tP.2.2.2|exact b.tP.2.2.2⟩
   ·exact a
  ·show 0<=(if c.testBit 3=true then f.now else x.now)/\(if c.testBit 3=true then f.now else x.now)<=1099511627776;split
   ·exact g.ok.now
   ·exact h.ok.now
  ·show rS (if k=part.toNat then o8 c (x.part k) (f.part k)else x.part k);have a:=h.sm k;have b:=g.sm k;split
   ·unfold o8;cases c.testBit 0<;>exact⟨by first|exact a.bH|exact b.bH,by first|exact a.waits|exact b.waits⟩
   ·exact a
  ·show mH (if k=part.toNat then o8 c (x.part k) (f.part k)else x.part k);have a:=h.path k;have b:=g.path k;split
   ·unfold o8;cases c.testBit 0
    ·exact fun y hy=>a y hy
    ·exact fun y hy=>b y hy
   ·exact a
 ·exact h
def OT(n i:Nat):cV:=⟨n+1+2*i,.slice none 0 0,.slice none 0 0,n+2+2*i,.slice none 0 0,.slice none 0 0⟩
def aaV(n k i:Nat):aX:=if i<k then(OT n i).cells else [.pointer none,.pointer none,.slice none 0 0]
def SJ(n k:Nat):aX:=aaV n k 0++(aaV n k 1++(aaV n k 2++(aaV n k 3++[.int .i64 0])))
structure Ey (w:World) (k:Nat) (W:World):Prop where
 fr:Fr aS w W
 eL:W.heap[w.heap.size]?=some (.cells (SJ w.heap.size k).toArray 86 (0,0))
 oz:∀i,i<k->W.heap[w.heap.size+1+2*i]?=some (.cells #[.slice none 0 0,.slice none 0 0] 89 (0,0))
 book:∀i,i<k->W.heap[w.heap.size+2+2*i]?=some (.cells #[.slice none 0 0] 92 (0,0))
 size:W.heap.size=w.heap.size+1+2*k
theorem SK(n k:Nat)(hk:k<4):(((SJ n k).set (k*3) (.pointer (some ⟨n+1+2*k,0,none⟩))).set (k*3+1) (.pointer (some ⟨n+2+2*k,0,none⟩))).set (k*3+2) (.slice none 0 0)=SJ n (k+1):=by
 match k,hk with
 |0,_=>rfl
 |1,_=>rfl
 |2,_=>rfl
 |3,_=>rfl
theorem Ey.step(h:Ey w k W)(hk:k<4):Ey w (k+1) (((((W.alloc (.cells #[.slice none 0 0,.slice none 0 0] 89)).alloc (.cells #[.slice none 0 0] 92)).setCell ⟨w.heap.size,k*3,none⟩ (.pointer (some ⟨W.heap.size,0,none⟩))).setCell ⟨w.heap.size,k*3+1,none⟩ (.pointer (some ⟨W.heap.size+1,0,none⟩))).setCell ⟨w.heap.size,k*3+2,none⟩ (.slice none 0 0)):=by
 obtain⟨V,hV⟩:∃V,V=(W.alloc (.cells #[.slice none 0 0,.slice none 0 0] 89)).alloc (.cells #[.slice none 0 0] 92):=⟨_,rfl⟩;have hf:Fr aS W V:=by rw[hV];exact((ae aS W).alloc _).alloc _
 have xy:V.heap[W.heap.size]?=some (.cells #[.slice none 0 0,.slice none 0 0] 89 (0,0)):=by rw[hV];exact((ae aS _).alloc _).keep (aC _ _) id
 have ND:V.heap[W.heap.size+1]?=some (.cells #[.slice none 0 0] 92 (0,0)):=by
  have h:=aC (W.alloc (.cells #[.slice none 0 0,.slice none 0 0] 89)) (.cells #[.slice none 0 0] 92);rw[bO]at h;rw[hV];exact h
 have hvs:V.heap.size=W.heap.size+2:=by rw[hV];simp
 rw[<-hV];have pY:=hf.keep h.eL id;have ET:Fr (one w.heap.size) V (((V.setCell ⟨w.heap.size,k*3,none⟩ (.pointer (some ⟨W.heap.size,0,none⟩))).setCell ⟨w.heap.size,k*3+1,none⟩ (.pointer (some ⟨W.heap.size+1,0,none⟩))).setCell ⟨w.heap.size,k*3+2,none⟩ (.slice none 0 0)) :=
  (((ae (one w.heap.size) V).setCell (p:=⟨w.heap.size,k*3,none⟩) (fun _=>rfl) _).setCell (p:=⟨w.heap.size,k*3+1,none⟩) (fun _=>rfl) _).setCell (p:=⟨w.heap.size,k*3+2,none⟩) (fun _=>rfl) _
 have e1:=cg pY (k*3) (.pointer (some ⟨W.heap.size,0,none⟩));have e2:=cg e1 (k*3+1) (.pointer (some ⟨W.heap.size+1,0,none⟩));have e3:=cg e2 (k*3+2) (.slice none 0 0);have yG:=h.size;have P2:=SK w.heap.size k hk;rw[show w.heap.size+1+2*k=W.heap.size from ab,show w.heap.size+2+2*k=W.heap.size+1 from ab]at P2;refine⟨?_,?_,fun i hi=>?_,fun i hi=>?_,?_⟩
 ·exact(((h.fr.trans hf).gJ (p:=⟨w.heap.size,k*3,none⟩) (ay _) _).gJ (p:=⟨w.heap.size,k*3+1,none⟩) (ay _) _).gJ (p:=⟨w.heap.size,k*3+2,none⟩) (ay _) _
 ·rw[e3, <-P2];simp
 ·refine ET.keep ?_ (fun e=>by have e':w.heap.size+1+2*i=w.heap.size:=e;omega);by_cases MK:i<k
  ·exact hf.keep (h.oz i MK) id
  ·rw[show w.heap.size+1+2*i=W.heap.size from ab];exact xy
 ·refine ET.keep ?_ (fun e=>by have e':w.heap.size+2+2*i=w.heap.size:=e;omega);by_cases MK:i<k
  ·exact hf.keep (h.book i MK) id
  ·rw[show w.heap.size+2+2*i=W.heap.size+1 from ab];exact ND
 ·have e:(((V.setCell ⟨w.heap.size,k*3,none⟩ (.pointer (some ⟨W.heap.size,0,none⟩))).setCell ⟨w.heap.size,k*3+1,none⟩ (.pointer (some ⟨W.heap.size+1,0,none⟩))).setCell ⟨w.heap.size,k*3+2,none⟩ (.slice none 0 0)).heap.size=V.heap.size:=by simp[World.setCell]
  rw[e];omega
theorem Ey.done(h:Ey w 4 W)(hb:base<=w.heap.size):cD base W w.heap.size (OT w.heap.size) Bc:=by
 refine⟨hb,h.eL,fun i hi=>⟨⟨?_,h.oz i hi,⟨[],dy _ _ _ _,.nil⟩,⟨[],dy _ _ _ _,.nil⟩⟩,⟨?_,h.book i hi,dy _ _ _ _⟩,dy _ _ _ _⟩,fun i j hi hj QR k hk Zr=>?_⟩
 ·show base<=w.heap.size+1+2*i;omega
 ·show base<=w.heap.size+2+2*i;omega
 ·have key:∀a,(OT w.heap.size a).j_ k->k=w.heap.size+1+2*a\/k=w.heap.size+2+2*a:=by
   rintro a(q|q|q)
   ·rcases q with q|q|q
    ·exact Or.inl q
    ·simp[OT,own,Value.ownBlock]at q
    ·simp[OT,own,Value.ownBlock]at q
   ·rcases q with q|q
    ·exact Or.inr q
    ·simp[OT,own,Value.ownBlock]at q
   ·simp[OT,own,Value.ownBlock]at q
  have h1:=key i hk;have h2:=key j Zr;omega
def akz(w:World)(t:Value)(wr:World):Prop:=∃k:Nat,k<=4/\t=.int .i64 k/\Ey w k wr
theorem Qv(w:World):aB 13 #[] w fun e w'=>∃B pv,e=.returned (.pointer (some ⟨B,0,none⟩))/\(∀base,base<=w.heap.size->cD base w' B pv Bc)/\Fr aS w w':=by
 have h0:Ey w 0 (w.alloc (.cells #[.pointer none,.pointer none,.slice none 0 0,.pointer none,.pointer none,.slice none 0 0,.pointer none,.pointer none,.slice none 0 0,.pointer none,.pointer none,.slice none 0 0,.int .i64 0] 86)) :=
  ⟨(ae aS w).alloc _,aC _ _,fun i hi=>absurd hi (ct i),fun i hi=>absurd hi (ct i),aR⟩
 have H0:=O h0;clear h0;go_enter func13,ntmps13;go_wp2_with fail
 go_loopw[5] (akz w) (fun i _=>4-(intOf i).toNat)
 case atStart=>exact⟨0,aQ _,rfl,H0.o⟩
 case round =>
  obtain⟨k,hk,rfl,hn⟩:=hrel;by_cases fo:k<4
  ·have pq:(k:Int)<4:=ab;have HN:=O (hn.step fo);have hb:=hn.eL;have Cf:w.heap.size<wr.heap.size:=bj hb;have N7:¬(k:Int)<0:=ab;have apt:(0:Int)<=(k:Int):=ab;have Ml:=(((ae aS wr).alloc (.cells #[.slice none 0 0,.slice none 0 0] 89)).alloc (.cells #[.slice none 0 0] 92)).keep hb id
   obtain⟨q0,q1,q2⟩:(SJ w.heap.size k)[k*3]?=some (.pointer none)/\(SJ w.heap.size k)[k*3+1]?=some (.pointer none)/\(SJ w.heap.size k)[k*3+2]?=some (.slice none 0 0):=by
    match k,fo with
    |0,_=>exact⟨rfl,rfl,rfl⟩
    |1,_=>exact⟨rfl,rfl,rfl⟩
    |2,_=>exact⟨rfl,rfl,rfl⟩
    |3,_=>exact⟨rfl,rfl,rfl⟩
   have c0:((wr.alloc (.cells #[.slice none 0 0,.slice none 0 0] 89)).alloc (.cells #[.slice none 0 0] 92)).cell? ⟨w.heap.size,k*3,none⟩=some (.pointer none):=by simp[World.cell?,Ml,q0]
   have c1:((wr.alloc (.cells #[.slice none 0 0,.slice none 0 0] 89)).alloc (.cells #[.slice none 0 0] 92)).cell? ⟨w.heap.size,k*3+1,none⟩=some (.pointer none):=by simp[World.cell?,Ml,q1]
   have c2:((wr.alloc (.cells #[.slice none 0 0,.slice none 0 0] 89)).alloc (.cells #[.slice none 0 0] 92)).cell? ⟨w.heap.size,k*3+2,none⟩=some (.slice none 0 0):=by simp[World.cell?,Ml,q2]
   have f0:∀j,((wr.alloc (.cells #[.slice none 0 0,.slice none 0 0] 89)).alloc (.cells #[.slice none 0 0] 92)).frozen? ⟨w.heap.size,j,none⟩=false:=fun j=>by simp[World.frozen?,Ml]
   have f1:=f0 (k*3);have f2:=f0 (k*3+1);have f3:=f0 (k*3+2);have hx:=HN;clear hn H0 Ml q0 q1 q2 f0 hb;go_wp2_with (first|((with_reducible refine cW 83 ?_);have OI:=hx;clear hx OI;generalize (wr.alloc (.cells #[.slice none 0 0,.slice none 0 0] 89)).alloc (.cells #[.slice none 0 0] 92)=W5 at *)|fail)
   go_roundw
   case rel=>exact⟨k+1,ab,bg,HN.o⟩
   case measure=>simp[intOf];omega
  ·have Kv:k=4:=ab;subst Kv;have HD:=O (fun base hb=>hn.done (base:=base) hb);have tA:=O hn.fr;clear hn H0;go_wp2;go_ret;exact⟨_,_,rfl,HD.o,tA.o⟩
theorem ma(t:iy)(n:Nat)(x:wB):(t.put n x).tab n=x:=by unfold iy.put;simp
theorem aaZ(t:iy)(n:Nat)(r:kI):(lW t n r).tab n=fX:=by unfold lW;simp
structure tJ where
 kind:Int
 tab:Int
 o:jQ
 hs:List ig
def tJ.cells(m:tJ):aX:=.int .i64 m.kind :: .int .i64 m.tab :: m.o.cells
