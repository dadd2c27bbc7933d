/- Lemmas for the law's walk. -/
import Derived.Test.YtjndhcngnghpiaaGreatDoorPn27
import Derived.Great.Walk
set_option maxRecDepth 100000
set_option maxHeartbeats 16000000
set_option linter.unusedSimpArgs false
namespace Go.Proofs.YtjndhcngnghpiaaGreatDoor
open Go.Proofs.Tryz
open Go.RowKit
variable {w W V:World} {m:tz} {v sv va:Value} {k:Int} {o:kl} {d r:List (Nat×Nat)} {c:Nat×Nat} {p i base A B n bs R:Nat} {f:Nat->Nat->Int} {S:World->Prop} {e:Ending} {g:Nat->qB} {t':im} {x:w_} {l:List Int} {q q':aX} {sb:Nat->Nat}
def uQ(m:tz):Bool:=qk (m.o,m.hs)
def wm(ms:List tz):Bool:=decide (ms.length<=150)&&!(ms.any uQ)
theorem Ac.di{w':World}(h:Ac w m)(hf:Fr aS w w'):Ac w' m:={h with op:=h.op.fr hf}
theorem afj{m':tz}(h:Ac w m)(h':Ac w m')(e:m.cells=m'.cells):uQ m=uQ m':=by
 unfold tz.cells at e;simp only[fD]at e;have:=WZ (o:=(m.o,m.hs)) (o':=(m'.o,m'.hs)) h.op h'.op e.2.2;unfold uQ;rw[this]
theorem OI(m:tz)(w:World)(h:Ac w m) :
  aB 24 #[.agg m.cells.toArray] w fun e w'=>e=.returned (.bool (uQ m))/\Fr aS w w':=by
 obtain⟨kd,tb,o,hs⟩:=m;obtain⟨ah,ch,hh⟩:=dI h.op.aJ.en;rw[ai]at hh;obtain⟨i0,qp,o9,kQ,ld⟩:=info_parts WS;obtain⟨y,hy⟩:∃y,y=tz.cells ⟨kd,tb,o,hs⟩:=⟨_,rfl⟩;obtain⟨x1,mI⟩:∃x1,x1=w.alloc (.cells y.toArray 50):=⟨_,rfl⟩;have dn:Fr aS w x1:=by rw[mI];exact(ae aS w).alloc _
 have k1:x1.heap[w.heap.size]?=some (.cells y.toArray 50 (0,0)):=by rw[mI];exact aC _ _
 have HR:=O (show x1.rangeAt w.heap.size 2 o.cells by
  intro j v hj;have e:(y.toArray)[2+j]?=some v:=by
   rw[hy,List.getElem?_toArray,Nat.add_comm];exact hj
  simp only[World.cell?,k1];exact e)
 obtain⟨x2,Pp⟩:∃x2,x2=x1.alloc (.cells o.cells.toArray 33):=⟨_,rfl⟩;have dz:Fr aS x1 x2:=by rw[Pp];exact(ae aS x1).alloc _
 have hoa:=h.op.fr (dn.trans dz);have CE:=O (Mg _ _ x2 (El.one hoa hh (n:=x1.heap.size) (by rw[Pp];exact aC _ _)));rw[GN]at CE;have Mc:Instr.fill (fun i=>some (i*i0.size,i0.size)) ((Array.range (1*i0.size)).map ((Value.agg zOp).cells[· %(Value.agg zOp).cells.size]!)) [(0,.agg o.cells.toArray)]=some o.cells.toArray:=by rw[kQ,dZ hh];exact ae' o ah hs.length ch
 have Mu:=O mI;have PZ:=O Pp;have HF:=O (dn.trans dz);have U4:=O (show(prog.info? 33).map (·.size)=some o.cells.length from af);obtain⟨oc,Hh⟩:∃oc,oc=o.cells:=⟨_,rfl⟩;rw[<-Hh]at HR Mc PZ U4;rw[<-hy];clear h hh dn dz k1 mI Pp hoa hy Hh;unfold uQ;go_enter func24,ntmps24
 go_wp2_with (first|((with_reducible refine dk 4 ?_);rw[<-Mu.o];refine a_ rfl 33 (.tmp 3) rfl w.heap.size 2 rfl oc _ HR.o underlying33 rfl U4.o ?_;refine xC rfl 37 33 1 _ rfl (some 5) rfl oc.toArray i0 (.agg zOp) [(0,.agg oc.toArray)] (by simp only[eC,cD,dp];rfl) underlying37 qp o9 (by rw[kQ];decide) (by rw[kQ];decide) Mc x1.heap.size rfl ?_)|fail)
 rw[<-PZ.o];refine CE.o.mono ?_;rintro e u⟨rfl,hf⟩;go_wp2;go_ret;exact⟨fy aR,HF.o.trans hf⟩
theorem SE(v:Value)(ms:List tz)(w:World)(h:yw w v ms) :
  aB 7 #[v] w fun e w'=>e=.returned (.bool (wm ms))/\Fr aS w w':=by
 classical
 obtain⟨hv,hl,ha⟩:=h;obtain⟨av,cv,fH⟩:=hv.form;rw[ai]at fH;subst fH;obtain⟨p,hp⟩:∃p:aX->Bool,∀m∈ms,p m.cells=uQ m:=⟨fun x=>decide (∃m∈ms,m.cells=x/\uQ m=true),fun m hm=>by
  cases hq:uQ m
  ·refine bD (fun⟨m',G3,e,Gy⟩=>?_);rw[afj (ha m' G3) (ha m hm) e,hq]at Gy;cases Gy
  ·exact bL ⟨m,hm,rfl,hq⟩⟩
 have Mw:=O (Cb _ #[] p _ _ w call24 (fun x hx u hu=>by
  obtain⟨m,hm,rfl⟩:=bZ.1 hx;rw[hp m hm];simpa using OI m u ((ha m hm).di hu)) hv)
 have ja:=O (show(ms.map tz.cells).any p=ms.any uQ by
  rw[List.any_map];clear Mw hv hl
  induction ms with
  |nil=>rfl
  |cons m ms ih =>
   rw[List.any_cons,List.any_cons,ih (fun x hx=>ha x (bP _ hx)) (fun x hx=>hp x (bP _ hx))];show(p m.cells||_)=_;rw[hp m (cX ..)])
 clear hp ha hv;by_cases h30:ms.length<=150
 ·have hb:=O (show wm ms=!(ms.any uQ)by unfold wm;rw[bL h30];rfl);have i30:(ms.length:Int)<=150:=ab;have d30:decide ((ms.length:Int)<=150)=true:=bL i30;go_enter func7,ntmps7;go_wp2_with fail
  refine Mw.o.mono ?_;rw[ja.o];rintro e u⟨rfl,hf⟩;go_wp2;go_ret;exact⟨fy hb.o.symm,hf⟩
 ·have hb:=O (show wm ms=false by unfold wm;rw[bD h30];rfl);have i30:¬(ms.length:Int)<=150:=ab;have d30:decide ((ms.length:Int)<=150)=false:=bD i30;go_enter func7,ntmps7;go_wp2;go_ret;exact⟨fy hb.o.symm,ae _ _⟩
theorem wj.of{ms:List tz}(h:yw w v ms)(hb:wm ms=true):wj w v ms/\ms.length<=150:=by
 unfold wm at hb;simp only[cF,dF,Bool.not_eq_true',eX]at hb;exact⟨⟨h.1,fun m hm=>gB.aki (h.2.2 m hm).op (by have:=hb.2 m hm;unfold uQ at this;simpa using this)⟩,hb.1⟩
section
variable {xw : Option (Nat × dN)} {a U U' : World} {T : Nat} {t : im}
theorem yr(h:df xw a U T t)(n:Int)(hk:k<1000000)(hs:fS k t) :
  aB 17 #[.pointer (some ⟨T,0,none⟩),.int .i64 n] U fun e w'=>e=.returned (xa (kP t n).2)/\df xw a w' T (kP t n).1/\gN U w':=by
 unfold kP;cases hn:yn n
 ·have HC:=O (Iv U T hn);have HH:=O h;clear hn h hs;go_enter func17,ntmps17;go_wp2_with fail
  refine HC.o.mono ?_;rintro e u⟨rfl,rfl⟩;unfold xa;go_wp2;go_ret;exact⟨rfl,HH.o,lo _⟩
 ·obtain⟨i,rfl,hi⟩:=Cu hn;obtain⟨B,g,sv,sb,h1,h2,h3,h4⟩:=h.ex;have HC:=O (N8 U T hi);have c:U.cell? ⟨T,17+i*45,none⟩=some (.int .i64 (t.tab i).does):=h1.tab i hi 0 _ rfl;have c2:=h1.steps;have fz:=h1.free 287;have e1:((i:Int)).toNat=i:=rfl;rw[aA rfl,e1];by_cases hd:(t.tab i).does=0
  ·rw[aA hd];rw[hd]at c;have HH:=O h;clear hn h hs h1 h2 h3 h4;go_enter func17,ntmps17;go_wp2_with fail
   refine HC.o.mono ?_;rintro e u⟨rfl,rfl⟩;go_wp2;go_ret;exact⟨rfl,HH.o,lo _⟩
  ·rw[ar hd];have hd0:¬((t.tab i).does:Int)=0:=ab;have s1:=hs.steps.1;have s2:=hs.steps.2;have q1:=h1.D8 (t.steps+1);have HT:=O (q1.1.there (o:=17+i*45) (n:=45) ab);have q2:=q1.1.N7 hi fW zeroV
   have HR:=O (kt (t':={(t.put i fW)with steps:=t.steps+1}) h1 h2 h3 h4 h.low h.fr ⟨q2.1,q1.2.trans q2.2⟩ rfl (N_ (t':={(t.put i fW)with steps:=t.steps+1}) rfl i (fun n hn=>ar hn) (by simp[im.put,fW]) (by simp[im.put,fW])) (fun j hj=>by
    by_cases ei:j=i
    ·subst ei;simp[im.put,fW]
    ·simp only[im.put,ar ei];exact⟨fun sF=>Or.inl ⟨trivial,trivial,trivial,sF⟩,(h4 j hj).2⟩))
   have XR:=O (show gN U _ from by
    obtain⟨d,hd,_⟩:=h1.eJ;exact(lo U).tabs hd (q1.2.trans q2.2))
   clear hn h hs h1 h2 h3 h4 q1 q2;go_enter func17,ntmps17;go_wp2_with fail
   refine HC.o.mono ?_;rintro e u⟨rfl,rfl⟩;go_wp2_with ((with_reducible refine cV 75 ?_);refine ig rfl 75 _ _ rfl T (17+i*45) (mQ fW zeroV).toArray rfl rfl HT.o rfl (zR _ _ rfl rfl) ?_)
   go_ret;exact⟨rfl,HR.o,XR.o⟩
end
theorem LQ(o:kl):(mT o).Pairwise (fun x y=>x.2<y.2):=by
 unfold mT;cases h0:(eO o).1.testBit 0<;>cases h1:(eO o).1.testBit 1<;>cases h2:(eO o).1.testBit 2<;>cases h3:(eO o).1.testBit 3<;>simp[h0,h1,h2,h3]
theorem LR(o:kl):(mT o).length<=4:=List.length_filterMap_le _ [0,1,2,3]
theorem Wu(h:mT o=d++c :: r):c∉d:=fun hc=>by
 have hp:=LQ o;rw[h,List.pairwise_append]at hp;have:=hp.2.2 c hc c (cX ..);omega
theorem IJ(h:mT o=d++c :: r):c.1<4/\c.2<4:=by
 have hm:(c.1,c.2)∈mT o:=by rw[h];simp
 obtain⟨h1,h2,h3⟩:=V6.1 hm;refine⟨?_,h1⟩;rw[h3];split
 ·decide
 ·cases hr:o.right
  ·rw[Gu hr]at h2;simp at h2
  ·obtain⟨p0,p4⟩:=ks hr;omega
theorem LS(h:mT o=d++c :: r):d.length<1000:=by
 have:=LR o;rw[h]at this;simp at this;omega
def wa(d:List (Nat×Nat))(f:Nat->Nat->Int):Nat->Nat->Int:=fun p i=>if(p,i)∈d then f p i+1 else f p i
theorem Sn(f:Nat->Nat->Int):wa [] f=f:=by funext p i;simp[wa]
theorem Ov(hc:c∉d)(f:Nat->Nat->Int):wa (d++[c]) f=fun p i=>if(p,i)=c then f p i+1 else wa d f p i:=by
 funext p i
 unfold wa;by_cases e:(p,i)=c
 ·subst e;simp
 ·by_cases m:(p,i)∈d<;>simp[e,m]
theorem Wv(f:Nat->Nat->Int)(hp:p<4)(hi:i<4)(v:Int):(kU f).set (p*4+i) (.int .i64 v)=kU (fun q j=>if(q,j)=(p,i)then v else f q j):=by
 rcases(show p=0\/p=1\/p=2\/p=3 from ab)with rfl|rfl|rfl|rfl<;>rcases(show i=0\/i=1\/i=2\/i=3 from ab)with rfl|rfl|rfl|rfl<;>rfl
def zW(d:List (Nat×Nat))(f:Nat->Nat->Int):List Int:=d.map fun c=>f c.1 c.2
theorem Sp(d:List (Nat×Nat))(c:Nat×Nat)(f:Nat->Nat->Int):zW (d++[c]) f=zW d f++[f c.1 c.2]:=by unfold zW;simp
theorem wh(d:List (Nat×Nat))(f:Nat->Nat->Int):(zW d f).length=d.length:=by unfold zW;simp
section
variable {xw : Option (Nat × dN)} {a U U' : World} {T : Nat} {t : im}
theorem df.Ww(h:df xw a U T t)(hp:p<4)(hi:i<4):U.cell? ⟨T,1+p*4+i,none⟩=some (.int .i64 (t.num p i)):=by
 obtain⟨_,_,_,_,g1,_⟩:=h.ex;rw[Nat.add_assoc];exact g1.num _ _ (P9 t.num hp hi)
theorem df.lt(h:df xw a U T t):T<U.heap.size:=by
 obtain⟨_,_,_,_,g1,_⟩:=h.ex;exact g1.lt
theorem df.kind(h:df xw a U T t):∃c,U.heap[T]?=some (.cells c 78 (0,0)):=by
 obtain⟨_,_,_,_,g1,_⟩:=h.ex;obtain⟨c,hc,_⟩:=g1.eJ;exact⟨c,hc⟩
theorem df.bump(h:df xw a U T t)(hp:p<4)(hi:i<4)(v:Int):df xw a (U.setCell ⟨T,1+p*4+i,none⟩ (.int .i64 v)) T {t with num:=fun q j=>if(q,j)=(p,i)then v else t.num q j}:=by
 obtain⟨B,g,sv,sb,h1,h2,h3,h4⟩:=h.ex;have q:=h1.aey hp hi v (Wv t.num hp hi v);rw[<-Nat.add_assoc]at q;exact kt (t':={t with num:=fun q j=>if(q,j)=(p,i)then v else t.num q j}) h1 h2 h3 h4 h.low h.fr q rfl (fun _ _ hp=>hp) (fun j hj=>⟨fun hd=>Or.inl ⟨rfl,rfl,rfl,hd⟩,(h4 j hj).2⟩)
structure zX (xw:Option (Nat×dN)) (a:World) (T:Nat) (t:im) (base A:Nat) (f:Nat->Nat->Int) (S:World->Prop) (d:List (Nat×Nat)) (V:World):Prop where
 tabs:df xw a V T t
 rows:∃v,V.heap[A]?=some (.cells #[v] 109 (0,0))/\OwnRows base 3 1 V v ((zW d f).map vd)
 low:a.heap.size<=base/\base<=V.heap.size/\a.heap.size<=A
 rest:S V
def yv(base A:Nat)(S:World->Prop):Prop:=∀V V' Z,S V->Fr Z V V'->(∀n,Z n->n=A\/(base<=n/\∃c,V.heap[n]?=some (.cells c 3 (0,0))))->S V'
theorem zX.di(hS:yv base A S)(h:zX xw a T t base A f S d U)(hf:Fr aS U U'):zX xw a T t base A f S d U':=by
 obtain⟨v,h1,h2⟩:=h.rows;exact⟨h.tabs.di hf,⟨v,hf.keep h1 id,h2.fr hf (fun _ _ h=>h)⟩,⟨h.low.1,aF h.low.2.1 hf.size,h.low.2.2⟩,hS _ _ _ h.rest hf (fun _ h=>absurd h id)⟩
theorem zX.add(hS:yv base A S)(h:zX xw a T t base A f S d U)(h1:U.heap[A]?=some (.cells #[v] 109 (0,0)))(h2:OwnRows base 3 1 U v ((zW d f).map vd))(hp:IE base U A v (zW d f++[f c.1 c.2]) e U') :
  e=.returned (.tuple #[])/\zX xw a T t base A f S (d++[c]) U'/\∀(n:Nat) (k:bS),U.heap[n]?=some (.cells k 33 (0,0))->U'.heap[n]?=some (.cells k 33 (0,0)):=by
 obtain⟨he,v',p1,p2,p3⟩:=hp;have hz:∀n,(n=A\/own v n)->n=A\/(base<=n/\∃c,U.heap[n]?=some (.cells c 3 (0,0))):=fun n hn=>by
  rcases hn with hn|hn
  ·exact Or.inl hn
  ·exact Or.inr ⟨h2.block n hn,h2.Bt hn⟩
 refine⟨he,⟨h.tabs.far p3 (fun n hn=>?_) (fun n hn=>?_),⟨v',p1,by rw[Sp];exact p2⟩,⟨h.low.1,aF h.low.2.1 p3.size,h.low.2.2⟩,hS _ _ _ h.rest p3 hz⟩,fun n k hn=>p3.keep hn (fun hh=>?_)⟩
 ·rcases hz n hn with rfl|⟨q,_⟩
  ·exact h.low.2.2
  ·exact aF h.low.1 q
 ·rcases hz n hn with rfl|⟨_,c,q⟩
  ·exact⟨_,_,h1,Wn⟩
  ·exact⟨_,_,q,aaj⟩
 ·rcases hz n hh with rfl|⟨_,c,q⟩
  ·rw[h1]at hn;cases hn
  ·rw[q]at hn;cases hn
theorem Wx(hS:yv base A S):uG (zX xw a T t base A t.num S) o T 50 #[.pointer (some ⟨A,0,none⟩)]:=by
 intro d c r hd V hV;obtain⟨v,h1,h2⟩:=hV.rows;obtain⟨c1,c2⟩:=IJ hd;refine(aeY h1 (hV.tabs.Ww c1 c2) h2 hV.low.2.1 (by rw[wh];exact LS hd)).mono ?_;intro e w' hp;exact hV.add hS h1 h2 hp
theorem Wy{W0:Nat}(hS:yv base A S)(hW:∀V,S V->∃cs,V.heap[W0]?=some (.cells cs 78 (0,0))/\∀q i,q<4->i<4->cs[1+q*4+i]?=some (.int .i64 (f q i))) :
  uG (zX xw a T t base A f S) o W0 51 #[.pointer (some ⟨A,0,none⟩)]:=by
 intro d c r hd V hV;obtain⟨v,h1,h2⟩:=hV.rows;obtain⟨c1,c2⟩:=IJ hd;obtain⟨cs,w1,w2⟩:=hW V hV.rest;have hc:V.cell? ⟨W0,1+c.1*4+c.2,none⟩=some (.int .i64 (f c.1 c.2)):=by
  simp only[World.cell?,w1];exact w2 _ _ c1 c2
 refine(aeZ h1 hc h2 hV.low.2.1 (by rw[wh];exact LS hd)).mono ?_;intro e w' hp;exact hV.add hS h1 h2 hp
structure Wz (xw:Option (Nat×dN)) (a:World) (T:Nat) (t:im) (S:World->Prop) (d:List (Nat×Nat)) (V:World):Prop where
 tabs:df xw a V T {t with num:=wa d t.num}
 rest:S V
def Ow(T:Nat)(S:World->Prop):Prop:=∀V V' c,S V->V.heap[T]?=some (.cells c 78 (0,0))->Fr (one T) V V'->S V'
theorem Wz.di(hS:Ow T S)(h:Wz xw a T t S d U)(hf:Fr aS U U'):Wz xw a T t S d U':=by
 obtain⟨c,hc⟩:=h.tabs.kind;exact⟨h.tabs.di hf,hS _ _ _ h.rest hc (hf.mono fun _ _ h=>absurd h id)⟩
theorem aao(hS:Ow T S)(hn:∀p i,0<=t.num p i/\t.num p i<1000000):uG (Wz xw a T t S) o T 55 #[]:=by
 intro d c r hd V hV;obtain⟨c1,c2⟩:=IJ hd;have ajX:=Wu hd;have hv:wa d t.num c.1 c.2=t.num c.1 c.2:=ar ajX;have hc:=hV.tabs.Ww c1 c2;rw[show({t with num:=wa d t.num}:im).num c.1 c.2=t.num c.1 c.2 from hv]at hc;obtain⟨k,hk⟩:=hV.tabs.kind;refine(aeW V T (1+c.1*4+c.2) hc (by simp[World.frozen?,hk]) (hn _ _).1 (hn _ _).2).mono ?_;rintro e w'⟨rfl,rfl⟩
 have hF:Fr (one T) V (V.setCell ⟨T,1+c.1*4+c.2,none⟩ (.int .i64 (t.num c.1 c.2+1))):=(ae (one T) V).setCell (p:=⟨T,1+c.1*4+c.2,none⟩) (fun _=>rfl) _;refine⟨rfl,⟨?_,hS _ _ _ hV.rest hk hF⟩,fun n q hq=>hF.keep hq (fun e=>?_)⟩
 ·have:=hV.tabs.bump c1 c2 (t.num c.1 c.2+1);rw[Ov ajX];have ee:(fun q j=>if(q,j)=(c.1,c.2)then t.num c.1 c.2+1 else wa d t.num q j)=(fun p i=>if(p,i)=c then t.num p i+1 else wa d t.num p i):=by
   funext q j
   by_cases e:(q,j)=c
   ·have e':(q,j)=(c.1,c.2):=e;rw[aA e,aA e'];have e1:q=c.1:=by rw[<-e]
    have e2:j=c.2:=by rw[<-e]
    rw[e1,e2]
   ·have e':¬(q,j)=(c.1,c.2):=e;rw[ar e,ar e']
  exact ee▸this
 ·cases(show n=T from e);rw[hk]at hq;cases hq
theorem f_.same(h:f_ U T B g sv t)(hn:t'.num=t.num)(ht:∀n,n<6->mQ (t'.tab n) (g n)=mQ (t.tab n) (g n))(hs:t'.steps=t.steps):f_ U T B g sv t' :=
 ⟨h.eJ,h.main,by rw[hn];exact h.num,fun n hl=>by rw[ht n hl];exact h.tab n hl,by rw[hs];exact h.steps,h.st⟩
theorem df.main{B:Nat}{g:Nat->qB}{sv:Value}{sb:Nat->Nat}{f:FuncId}{args:bS}{R:Ending->Prop}{x':dN}(h1:f_ U T B g sv t)(h2:xz a.heap.size U (oU xw B sb t))(h3:ph a.heap.size U sv t.fJ)
  (h4:∀n,n<6->((t.tab n).does≠0->j_ a.heap.size U ((g n).o,(g n).hs) (t.tab n).op)/\((t.tab n).does=2\/(t.tab n).does=3->(g n).sp=.pointer (some ⟨sb n,0,none⟩)))(k_:a.heap.size<=T)(cL:Fr aS a U)
  (hc:∀pv,cE a.heap.size U B pv t.w->aB f args U fun e w'=>R e/\dr a.heap.size U B pv x' w') :
  aB f args U fun e w'=>R e/\df xw a w' T {t with w:=x'}/\f_ w' T B g sv t/\Kept U w':=by
 refine(xz.act h2 cL (ay _) (i:=6) (B:=B) (x:=t.w) rfl hc).mono ?_;rintro e w'⟨r1,r2,r3,r4⟩;refine⟨r1,⟨⟨B,g,sv,sb,(r4.eJ h1).same rfl (fun _ _=>rfl) rfl,r2.sub (fun i p hp=>?_),h3.kept r4,fun n hn=>⟨fun hd=>((h4 n hn).1 hd).kept r4,(h4 n hn).2⟩⟩,k_,r3⟩,r4.eJ h1,r4⟩;by_cases e:i=6
 ·subst e;exact hp
 ·rw[ar e];unfold oU at hp ⊢;rw[ar e]at hp ⊢;exact hp
theorem df.seen{B:Nat}{g:Nat->qB}{sv:Value}{sb:Nat->Nat}{f:FuncId}{args:bS}{R:Ending->Prop}{x':dN}{i:Nat}(hi:i<6)(hd:(t.tab i).does=2\/(t.tab i).does=3)(h1:f_ U T B g sv t)(h2:xz a.heap.size U (oU xw B sb t))(h3:ph a.heap.size U sv t.fJ)
  (h4:∀n,n<6->((t.tab n).does≠0->j_ a.heap.size U ((g n).o,(g n).hs) (t.tab n).op)/\((t.tab n).does=2\/(t.tab n).does=3->(g n).sp=.pointer (some ⟨sb n,0,none⟩)))(_hlow:a.heap.size<=T)(cL:Fr aS a U)
  (hc:∀pv,cE a.heap.size U (sb i) pv (t.tab i).seen->aB f args U fun e w'=>R e/\dr a.heap.size U (sb i) pv x' w') :
  aB f args U fun e w'=>R e/\(f_ w' T B g sv t/\xz a.heap.size w' (oU xw B sb (t.put i {t.tab i with seen:=x'}))/\ph a.heap.size w' sv t.fJ/\(∀n,n<6->((t.tab n).does≠0->j_ a.heap.size w' ((g n).o,(g n).hs) (t.tab n).op))/\Fr aS a w')/\Kept U w':=by
 have hw:oU xw B sb t i=some (sb i,(t.tab i).seen):=by
  unfold oU;rw[ar ab,ar ab,aA ⟨hi,hd⟩]
 refine(xz.act h2 cL (ay _) hw hc).mono ?_;rintro e w'⟨r1,r2,r3,r4⟩;refine⟨r1,⟨r4.eJ h1,r2.sub (fun j p hp=>?_),h3.kept r4,fun n hn hd=>((h4 n hn).1 hd).kept r4,r3⟩,r4⟩;by_cases e:j=i
 ·subst e;rw[aA rfl];unfold oU at hp;rw[ar ab,ar ab]at hp;split at hp
  ·rw[<-hp];simp[im.put]
  ·cases hp
 ·rw[ar e];unfold oU at hp ⊢;by_cases e6:j=6
  ·rw[aA e6]at hp ⊢;exact hp
  ·rw[ar e6]at hp ⊢;simpa[im.put,e]using hp
theorem df.WA(h:df xw a U T t)(hi:i<6){j:Nat}(hj:j<45)(v:Value)(hx:∀g,(mQ (t.tab i) g).set j v=mQ x g)(ho:x.op=(t.tab i).op)(h0:x.does≠0->(t.tab i).does≠0)(hs:x.does=2\/x.does=3->((t.tab i).does=2\/(t.tab i).does=3)/\x.seen=(t.tab i).seen) :
  df xw a (U.setCell ⟨T,17+i*45+j,none⟩ v) T (t.put i x)/\Fr (one T) U (U.setCell ⟨T,17+i*45+j,none⟩ v):=by
 obtain⟨B,g,sv,sb,h1,h2,h3,h4⟩:=h.ex;have q:=h1.Ct hi hj v (hx (g i));refine⟨kt (t':=t.put i x) h1 h2 h3 h4 h.low h.fr q rfl (N9 rfl fun n hn hd=>?_) (fun n hn=>?_),q.2⟩
 ·by_cases e:n=i
  ·subst e;simp only[im.put,eb]at hd ⊢;exact hs hd
  ·simp only[im.put,ar e]at hd ⊢;exact⟨hd,trivial⟩
 ·by_cases e:n=i
  ·subst e;simp only[im.put,eb];exact⟨fun hd=>Or.inl ⟨trivial,trivial,ho,h0 hd⟩,fun hd=>(h4 n hn).2 (hs hd).1⟩
  ·simp only[im.put,ar e];exact⟨fun hd=>Or.inl ⟨trivial,trivial,trivial,hd⟩,(h4 n hn).2⟩
theorem df.at(h:df xw a U T t)(hi:i<6):∃v:qB,U.rangeAt T (17+i*45) (mQ (t.tab i) v)/\U.rangeAt T (17+i*45+1) v.o.cells/\U.rangeAt T (17+i*45+26) (kU (t.tab i).num)/\U.rangeAt T (17+i*45+42) (qg (t.tab i).jy)/\((t.tab i).does≠0->j_ a.heap.size U (v.o,v.hs) (t.tab i).op):=by
 obtain⟨B,g,sv,sb,h1,h2,h3,h4⟩:=h.ex;have hr:=h1.tab i hi;refine⟨g i,hr,kG (p:=[.int .i64 (t.tab i).does]) (q:=(g i).o.cells) hr,?_,?_,(h4 i hi).1⟩
 ·have:=kG (p:=.int .i64 (t.tab i).does :: ((g i).o.cells++[.int .i64 (t.tab i).fails,.int .i64 (t.tab i).ng,(g i).sp])) (q:=kU (t.tab i).num) (r:=qg (t.tab i).jy) (U:=U) (b:=T) (o:=17+i*45) hr;exact this
 ·have:=kG (p:=.int .i64 (t.tab i).does :: ((g i).o.cells++(.int .i64 (t.tab i).fails :: .int .i64 (t.tab i).ng :: (g i).sp :: kU (t.tab i).num))) (q:=qg (t.tab i).jy) (r:=[]) (U:=U) (b:=T) (o:=17+i*45) hr;exact this
theorem acb(h:dV 1 U v (l.map vd))(hl:l≠ []):∃b o c,v=.slice (some ⟨b,o,none⟩) l.length c/\∀j,j<l.length->U.cell? ⟨b,o+j,none⟩=some (.int .i64 (l.getD j 0)):=by
 rcases h.2 with ⟨a',c',e1,e2,e3⟩|⟨bk,o',c,hf,g1,g2,g3,g4⟩
 ·exact absurd (by simpa using e2) hl
 ·rw[ai]at hf;refine⟨bk,o',c,hf,fun j hj=>?_⟩;have:=g4 j (vd (l.getD j 0)) (by simp[List.getElem?_eq_getElem hj,List.getD_eq_getElem?_getD]) 0 _ rfl;simpa using this
theorem ae3{v':Value}{l':List Int}(h:dV 1 U v (l.map vd))(h':dV 1 U v' (l'.map vd))(hl:l.length=l'.length)(hs:l.length<1000) :
  aB 52 #[v,v'] U fun e w'=>e=.returned (.bool (decide (l=l')))/\Fr aS U w':=by
 by_cases h0:l=[]
 ·subst h0;have Tn:l'=[]:=dG.1 hl.symm;subst Tn;obtain⟨a1,c1,e1⟩:=h.form;obtain⟨a2,c2,e2⟩:=h'.form;rw[e1,e2];refine(slices_Equal_int_empty a1 a2 c1 0 c2 U ag).mono ?_;rintro e w'⟨rfl,rfl⟩;exact⟨rfl,ae _ _⟩
 ·have Tn:l'≠ []:=fun e=>h0 (dG.1 (by rw[hl,e];rfl));obtain⟨b1,o1,c1,e1,f1⟩:=acb h h0;obtain⟨b2,o2,c2,e2,f2⟩:=acb h' Tn;rw[e1,e2];refine(slices_Equal_int b1 o1 l.length c1 b2 o2 l'.length c2 l l' U (ay _) (ay _) ab ab f1 f2).mono ?_;rintro e w'⟨rfl,q,rfl⟩;refine⟨?_,(ae aS U).drewN q⟩;rw[List.take_length,List.take_length]
  congr 2
  by_cases e:l=l'<;>simp[e]
end
theorem wpList_buildTo{P:Program}{ops:Array Oper}{rest:List Oper}{o:Oper}{a:Act}{w:World}{Q:Exit->Act->World->Prop}(hg:o.guard=none)(t:TypeId)(parts:Array (Nat×Operand))(ho:o.op=.build t parts)(dst:Option Tmp)(Oy:o.dst=dst)
  (vs:List (Nat×Value))(he:(parts.map fun(i,x)=>(i,a.eval x)).toList=vs)(cells:bS)(hf:P.built t vs=some cells)
  (h:wpList P ops Q rest (a.put dst (.agg cells)) w):wpList P ops Q (o :: rest) a w:=by
 subst Oy;refine wpList_build hg t parts ho (by rw[he,hf];rfl) ?_;rw[he,hf];exact h
theorem wpList_boxTo{P:Program}{ops:Array Oper}{rest:List Oper}{o:Oper}{a:Act}{w:World}{Q:Exit->Act->World->Prop}(hg:o.guard=none)(t:TypeId)(x:Operand)(ho:o.op=.box t x)(dst:Option Tmp)(Oy:o.dst=dst)
  (cells:bS)(hx:a.eval x=.agg cells)
  (h:wpList P ops Q rest (a.put dst (.pointer (some ⟨w.heap.size,0,none⟩))) (w.alloc (.cells cells t))):wpList P ops Q (o :: rest) a w:=by
 refine Great.wpList_runTo hg dst Oy (.pointer (some ⟨w.heap.size,0,none⟩)) _ ?_ h;unfold execOp;simp[ho,Instr.box,newVar,newRow,hx,Value.cells,Result.andThen]
theorem kH{P:Program}{ops:Array Oper}{rest:List Oper}{o:Oper}{a:Act}{w:World}{Q:Exit->Act->World->Prop}(hg:o.guard=none)(t:TypeId)(ho:o.op=.alloc t)(dst:Option Tmp)(Oy:o.dst=dst)
  (cells:bS)(hi:(P.info? t).map (·.zero)=some (some (.agg cells)))(N:Nat)(hN:w.heap.size=N)
  (h:wpList P ops Q rest (a.put dst (.pointer (some ⟨N,0,none⟩))) (w.alloc (.cells cells t))):wpList P ops Q (o :: rest) a w:=by
 subst hN;refine Great.wpList_runTo hg dst Oy (.pointer (some ⟨w.heap.size,0,none⟩)) _ ?_ h;cases hie:P.info? t with
 |none=>simp[hie]at hi
 |some ie =>
  simp only[hie,Option.map_some,eo]at hi;unfold execOp;simp[ho,Instr.alloc,zeroValue,typeInfo,hie,hi,newVar,newRow,Value.cells,Sem.run_bind,Result.andThen]
def zY(p:Value)(f:Nat->Nat->Int):aX:=p :: (kU f++((List.replicate 6 (mQ fW zeroV)).flatten++[.int .i64 0,.slice none 0 0]))
theorem WB(B:Nat):prog.built 78 [(0,.pointer (some ⟨B,0,none⟩))]=some (zY (.pointer (some ⟨B,0,none⟩)) (fun _ _=>0)).toArray:=af
theorem aaq(p:Value)(f:Nat->Nat->Int)(hn:n<6):zY p f=(zY p f).take (17+n*45)++(mQ fW zeroV++(zY p f).drop (17+n*45+45)):=by
 rcases(show n=0\/n=1\/n=2\/n=3\/n=4\/n=5 from ab)with rfl|rfl|rfl|rfl|rfl|rfl<;>rfl
section
variable {xw : Option (Nat × dN)} {a U U' : World} {T : Nat} {t : im}
theorem WC{T:Nat}{pv:Nat->cU}(hf:Fr aS a W)(hT:a.heap.size<=T)(hb:W.heap[T]?=some (.cells (zY (.pointer (some ⟨B,0,none⟩)) (fun _ _=>0)).toArray 78 (0,0)))(hw:cE a.heap.size W B pv AQ):df none a W T xy:=by
 have hr:=BM hb;refine⟨⟨B,fun _=>zeroV,.slice none 0 0,fun _=>0,⟨⟨_,hb,rfl⟩,hr 0 _ rfl,?_,fun n hn=>?_,hr 287 _ rfl,hr 288 _ rfl⟩,⟨fun _=>pv,?_,?_⟩,⟨[],rfl,dx _ _ _ _,fun _ h=>(by cases h)⟩,fun n hn=>⟨fun h=>absurd rfl h,fun h=>by rcases h with h|h<;>cases h⟩⟩,hT,hf⟩
 ·exact kG (p:=[_]) (q:=kU (fun _ _=>0)) hr
 ·rw[aaq _ _ hn]at hr;have:=kG hr
  rwa [show 0+((zY (.pointer (some ⟨B,0,none⟩)) (fun _ _=>0)).take (17+n*45)).length=17+n*45 by
   rw[aM,show(zY (.pointer (some ⟨B,0,none⟩)) (fun _ _=>0)).length=289 from rfl];omega]at this
 ·intro i C x hi;unfold oU at hi;split at hi
  ·cases hi;exact hw
  ·split at hi
   ·cases hi
   ·split at hi
    ·rename_i h;rcases h.2 with h|h<;>cases h
    ·cases hi
 ·intro i j C x D y Qz hi hj;exfalso;have key:∀k E z,oU none B (fun _=>0) xy k=some (E,z)->k=6:=fun k E z hk=>by
   unfold oU at hk;split at hk
   ·assumption
   ·split at hk
    ·cases hk
    ·split at hk
     ·rename_i h;rcases h.2 with h|h<;>cases h
     ·cases hk
  exact Qz ((key _ _ _ hi).trans (key _ _ _ hj).symm)
theorem LV(hf:Fr aS a U):aB 20 #[] U fun e w'=>∃T,e=.returned (.pointer (some ⟨T,0,none⟩))/\df none a w' T xy/\Fr aS U w':=by
 go_enter func20,ntmps20;go_wp2_with fail
 refine(Qd U).mono ?_;rintro e u⟨B,pv,rfl,hw,hu⟩;have HE:=O (WC (a:=a) (W:=u.alloc (.cells (zY (.pointer (some ⟨B,0,none⟩)) (fun _ _=>0)).toArray 78)) (T:=u.heap.size) (B:=B) (pv:=pv) ((hf.trans hu).alloc _) (hf.trans hu).size (aC _ _) ((hw _ hf.size).di ((ae aS u).alloc _)));have HUF:=O hu;clear hw hu;obtain⟨x,hx⟩:∃x,x=zY (.pointer (some ⟨B,0,none⟩)) (fun _ _=>0):=⟨_,rfl⟩;have HX:=O hx
 rw[<-hx]at HE;dsimp only;refine ‹∀ (a:Act) (w:World),wpList _ _ _ _ a w->_› _ _ ?_;refine wpList_buildTo rfl 78 _ rfl (some 2) rfl [(0,.pointer (some ⟨B,0,none⟩))] (by simp only[eC,cD,dp];rfl) x.toArray (by rw[HX.o];exact WB B) ?_;clear hx;refine wpList_boxTo rfl 78 (.tmp 2) rfl (some 3) rfl x.toArray rfl ?_;go_wp2;go_ret;exact⟨_,rfl,HE.o,HUF.o.alloc _⟩
end
theorem WD(f:Nat->Nat->Int):prog.built 78 [(1,.agg (kU f).toArray)]=some (zY (.pointer none) f).toArray:=af
theorem WE:(prog.info? 78).map (·.zero)=some (some (.agg (zY (.pointer none) (fun _ _=>0)).toArray)):=af
theorem WG:(prog.info? 78).map (·.size)=some 289:=af
theorem aar(f:Nat->Nat->Int):(zY (.pointer none) f).toArray.all (·.oneCell')=true :=
 bW (by
  intro u hu;unfold zY at hu;rcases bB.1 hu with rfl|hu
  ·rfl
  ·rcases bQ.1 hu with hu|hu
   ·unfold kU at hu;simp only[bB,cz,dU]at hu;rcases hu with rfl|rfl|rfl|rfl|rfl|rfl|rfl|rfl|rfl|rfl|rfl|rfl|rfl|rfl|rfl|rfl<;>rfl
   ·rcases bQ.1 hu with hu|hu
    ·obtain⟨l,hl,hul⟩:=fK.1 hu;rw[List.eq_of_mem_replicate hl]at hul;have:=zR fW zeroV rfl rfl;rw[List.all_toArray,gu]at this;exact this u hul
    ·simp only[bB,cz,dU]at hu;rcases hu with rfl|rfl<;>rfl)
theorem aas(p:Value)(f:Nat->Nat->Int){q:Nat}(hq:q<4)(hi:i<4):(zY p f).toArray[1+q*4+i]?=some (.int .i64 (f q i)):=by
 have:=P9 f hq hi;rw[List.getElem?_toArray,Nat.add_assoc];unfold zY;rw[Nat.add_comm 1,List.getElem?_cons_succ,List.getElem?_append_left (by rw[ny];omega)];exact this
def zZ(U:World)(f:Nat->Nat->Int):World:=(((U.alloc (.cells bR 46)).alloc (.cells (zY (.pointer none) (fun _ _=>0)).toArray 78)).setRow (U.heap.size+1) (zY (.pointer none) f).toArray)
def Ca(U:World)(f:Nat->Nat->Int):World:=((zZ U f).alloc (.cells #[.slice none 0 0] 109)).alloc (.cells #[.slice none 0 0] 109)
section
variable {xw : Option (Nat × dN)} {a U U' : World} {T : Nat} {t : im}
theorem GI(U:World)(f:Nat->Nat->Int):(zZ U f).heap.size=U.heap.size+2:=by
 unfold zZ;rw[World.setRow];simp[Array.size_modify]
theorem Eg(U:World)(f:Nat->Nat->Int):Fr aS U (Ca U f)/\(Ca U f).heap.size=U.heap.size+4/\(Ca U f).heap[U.heap.size]?=some (.cells bR 46 (0,0))/\(Ca U f).heap[U.heap.size+1]?=some (.cells (zY (.pointer none) f).toArray 78 (0,0))/\(Ca U f).heap[U.heap.size+2]?=some (.cells #[.slice none 0 0] 109 (0,0))/\(Ca U f).heap[U.heap.size+3]?=some (.cells #[.slice none 0 0] 109 (0,0)):=by
 have s1:(U.alloc (.cells bR 46)).heap.size=U.heap.size+1:=aR;have b1:=aC (U.alloc (.cells bR 46)) (.cells (zY (.pointer none) (fun _ _=>0)).toArray 78);rw[s1]at b1;have b2:(zZ U f).heap[U.heap.size+1]?=some (.cells (zY (.pointer none) f).toArray 78 (0,0)):=lS b1;have f0:Fr aS U (U.alloc (.cells bR 46)):=(ae _ _).alloc _
 have f1:Fr aS (U.alloc (.cells bR 46)) (zZ U f):=jc ((ae _ _).alloc _) (by rw[s1];exact ay _) _;have r1:(zZ U f).heap[U.heap.size]?=some (.cells bR 46 (0,0)):=f1.keep (aC U _) id;have sw:=GI U f;have a1:=aC (zZ U f) (.cells #[.slice none 0 0] 109);have a2:=aC ((zZ U f).alloc (.cells #[.slice none 0 0] 109)) (.cells #[.slice none 0 0] 109)
 have s2:((zZ U f).alloc (.cells #[.slice none 0 0] 109)).heap.size=U.heap.size+3:=by simp[sw]
 rw[sw]at a1;rw[s2]at a2;have f2:Fr aS (zZ U f) ((zZ U f).alloc (.cells #[.slice none 0 0] 109)):=(ae _ _).alloc _;have f3:Fr aS ((zZ U f).alloc (.cells #[.slice none 0 0] 109)) (Ca U f):=(ae _ _).alloc _;exact⟨((f0.trans f1).trans f2).trans f3,by unfold Ca;simp[sw],f3.keep (f2.keep r1 id) id,f3.keep (f2.keep b2 id) id,f3.keep a1 id,a2⟩
structure St1 (U:World) (f:Nat->Nat->Int) (V:World):Prop where
 rep:V.heap[U.heap.size]?=some (.cells bR 46 (0,0))
 was:V.heap[U.heap.size+1]?=some (.cells (zY (.pointer none) f).toArray 78 (0,0))
 var:V.heap[U.heap.size+3]?=some (.cells #[.slice none 0 0] 109 (0,0))
 kept:gN U V
theorem St1.keeps(U:World)(f:Nat->Nat->Int)(hb:U.heap.size+4<=base):yv base (U.heap.size+2) (St1 U f):=by
 intro V V' Z h hf hz;have key:∀n,n<U.heap.size+4->n≠U.heap.size+2->¬Z n:=fun n h1 h2 h3=>by
  rcases hz n h3 with e|⟨e,_⟩
  ·exact h2 e
  ·omega
 exact⟨hf.keep h.rep (key _ ab ab),hf.keep h.was (key _ ab ab),hf.keep h.var (key _ ab ab),h.kept.step hf fun n c e hn _ _ q=>key n ab ab q⟩
structure XT (U:World) (f:Nat->Nat->Int) (bs:Nat) (va:Value) (l:List Int) (V:World):Prop where
 rep:V.heap[U.heap.size]?=some (.cells bR 46 (0,0))
 was:V.heap[U.heap.size+1]?=some (.cells (zY (.pointer none) f).toArray 78 (0,0))
 var:V.heap[U.heap.size+2]?=some (.cells #[va] 109 (0,0))
 rows:OwnRows bs 3 1 V va (l.map vd)
 kept:gN U V
theorem XT.keeps(U:World)(f:Nat->Nat->Int)(hb:U.heap.size+4<=base)(hv:∀b,va.ownBlock=some b->b<base/\b≠U.heap.size+3):yv base (U.heap.size+3) (XT U f bs va l):=by
 intro V V' Z h hf hz;have key:∀n,n<base->n≠U.heap.size+3->¬Z n:=fun n h1 h2 h3=>by
  rcases hz n h3 with e|⟨e,_⟩
  ·exact h2 e
  ·omega
 exact⟨hf.keep h.rep (key _ ab ab),hf.keep h.was (key _ ab ab),hf.keep h.var (key _ ab ab),h.rows.fr hf fun b hb q=>key b (hv b hb).1 (hv b hb).2 q,h.kept.step hf fun n c e hn _ _ q=>key n ab ab q⟩
theorem XT.di{V':World}(h:XT U f bs va l V)(hf:Fr aS V V'):XT U f bs va l V' :=
 ⟨hf.keep h.rep id,hf.keep h.was id,hf.keep h.var id,h.rows.fr hf (fun _ _ h=>h),h.kept.trans (eH hf)⟩
theorem Ss(h:df xw a U T t)(f:Nat->Nat->Int)(hW:W=Ca U f)(o:jz)(hs:List gY)(ho:gB W o hs) :
  aB 49 #[.pointer (some ⟨T,0,none⟩),.agg o.cells.toArray,.func (.func 50) #[] #[.pointer (some ⟨U.heap.size+2,0,none⟩)]] W fun e w'=>e=.returned (.tuple #[])/\zX xw a T t (U.heap.size+4) (U.heap.size+2) t.num (St1 U f) (mT (o.dS hs)) w':=by
 subst hW;obtain⟨c1,c2,c3,c4,c5,c6⟩:=Eg U f;have hk:=St1.keeps U f (ay _);refine v_ (Ca U f) T o hs _ _ call50 (zX xw a T t (U.heap.size+4) (U.heap.size+2) t.num (St1 U f)) ?_ (fun d V V' hV hf=>hV.di hk hf) (Wx hk) ho;have:=h.fr.size;exact⟨h.di c1,⟨_,c5,dx _ _ _ _⟩,⟨ab,ab,ab⟩,⟨c3,c4,c6,eH c1⟩⟩
theorem Oz{l:List (Nat×Nat)}(hV:zX xw a T t (U.heap.size+4) (U.heap.size+2) t.num (St1 U f) l V)(o:jz)(hs:List gY)(ho:gB V o hs) :
  ∃va,aB 49 #[.pointer (some ⟨U.heap.size+1,0,none⟩),.agg o.cells.toArray,.func (.func 51) #[] #[.pointer (some ⟨U.heap.size+3,0,none⟩)]] V fun e w'=>e=.returned (.tuple #[])/\zX xw a T t V.heap.size (U.heap.size+3) f (XT U f (U.heap.size+4) va (zW l t.num)) (mT (o.dS hs)) w':=by
 obtain⟨va,v1,v2⟩:=hV.rows;have hl:=hV.low;have hk:yv V.heap.size (U.heap.size+3) (XT U f (U.heap.size+4) va (zW l t.num)):=XT.keeps U f hl.2.1 fun b hb=>⟨v2.lt b hb,by have:=v2.block b hb;omega⟩
 refine⟨va,v_ V _ o hs _ _ call51 (zX xw a T t V.heap.size (U.heap.size+3) f (XT U f (U.heap.size+4) va (zW l t.num))) ?_ (fun d V V' hV hf=>hV.di hk hf) (Wy hk (fun W hW=>⟨_,hW.was,fun q i hq hi=>aas _ f hq hi⟩)) ho⟩;exact⟨hV.tabs,⟨_,hV.rest.var,dx _ _ _ _⟩,⟨ab,ay _,ab⟩,⟨hV.rest.rep,hV.rest.was,v1,v2,hV.rest.kept⟩⟩
theorem WH{l:List (Nat×Nat)}(hl:l=mT o)(hV:zX xw a T t bs (U.heap.size+3) f (XT U f (U.heap.size+4) va (zW l t.num)) l V) :
  ∃vb,V.cell? ⟨U.heap.size+2,0,none⟩=some va/\V.cell? ⟨U.heap.size+3,0,none⟩=some vb/\(∃a1 n1 c1,va=.slice a1 n1 c1)/\(∃a1 n1 c1,vb=.slice a1 n1 c1)/\aB 52 #[va,vb] V fun e w'=>e=.returned (.bool (decide (Gv o t.num=Gv o f)))/\Fr aS V w':=by
 obtain⟨vb,w1,w2⟩:=hV.rows;have r:=hV.rest;obtain⟨a1,c1,e1⟩:=r.rows.form;obtain⟨a2,c2,e2⟩:=w2.form;refine⟨vb,by simp[World.cell?,r.var],by simp[World.cell?,w1],⟨_,_,_,e1⟩,⟨_,_,_,e2⟩,?_⟩;have:=ae3 (l:=zW l t.num) (l':=zW l f) r.rows.at w2.at (by rw[wh,wh]) (by rw[wh,hl];have:=LR o;omega);rw[hl]at this;exact this
end
section
variable {xw : Option (Nat × dN)} {a U U' : World} {T : Nat} {t : im}
def Qe(xw:Option (Nat×dN))(a U:World)(T:Nat)(r:im×(kM×Bool))(e:Ending)(w':World):Prop :=
 e=.returned (.tuple #[.agg #[.int .i64 r.2.1.what,.string r.2.1.head,.int .i64 r.2.1.cert],.bool r.2.2,.nilIface])/\df xw a w' T r.1/\gN U w'
theorem Cv{r:kM×Bool}(h:df xw a W T t')(hk:gN U W)(hR:U.heap.size<=R)(ha:a.heap.size<=R)(hr:W.heap[R]?=some (.cells bR 46 (0,0)))(cs:bS)(he:e=.returned (.tuple #[.agg #[.int .i64 r.1.what,.string r.1.head,.int .i64 r.1.cert],.bool r.2,.nilIface])):Qe xw a U T (t',r) e (W.setRow R cs) :=
 ⟨he,h.far ((ae (one R) _).setRow (fun _=>rfl) _) (fun n hn=>by have e':n=R:=hn;omega) (fun n hn=>by cases(show n=R from hn);exact⟨_,_,hr,ID⟩),hk.new ((ae (one R) _).setRow (fun _=>rfl) _) hR⟩
theorem aat(t:im)(n:Nat)(x y:w_):(t.put n x).put n y=t.put n y:=by
 unfold im.put;simp only
 congr 1
 funext i
 split<;>rfl
theorem j_.fits{v:qB}(h:j_ base V (v.o,v.hs) o):gB V v.o v.hs/\v.o.dS v.hs=o:=⟨h.fit,h.is⟩
theorem OA(h:df xw a U T t)(hi:i<6)(hd:(t.tab i).does=3)(hk:k<1000000)(hf:fS k t)(hl:t.fJ.length<1000000) :
  aB 31 #[.pointer (some ⟨T,0,none⟩),.int .i64 i,.pointer (some ⟨T,17+i*45,none⟩)] U (Qe xw a U T (jZ t i)):=by
 have hd0:(t.tab i).does≠0:=ab;obtain⟨c1,c2,c3,c4,c5,c6⟩:=Eg U (t.tab i).num;obtain⟨W4,hW4⟩:∃W4,W4=Ca U (t.tab i).num:=⟨_,rfl⟩;rw[<-hW4]at c1 c2 c3 c4 c5 c6;have h4:=h.di c1;obtain⟨v, -, v1, -, -, v4⟩:=h4.at hi;obtain⟨v4a,v4b⟩:=(v4 hd0).fits;have HV1:=O v1;have Qc:=O (Ss h (t.tab i).num hW4 v.o v.hs v4a);rw[v4b]at Qc;have om:=h.lt;obtain⟨_, -, -, n0, -, -⟩:=h.at hi
 have HN0:=O (show(U.alloc (.cells bR 46)).rangeAt T (17+i*45+26) (kU (t.tab i).num)from pQ n0 ((ae aS U).alloc _) id);have NS:=O hW4;have XR:=O hk;have z_:=O hf;have HL:=O hl;have HD:=O hd;have HI:=O hi;have HA:=O h.fr.size
 have Ji:=O (show((U.alloc (.cells bR 46)).alloc (.cells (zY (.pointer none) (fun _ _=>0)).toArray 78)).heap[U.heap.size+1]?=some (.cells (zY (.pointer none) (fun _ _=>0)).toArray 78 (0,0))from by
  have:=aC (U.alloc (.cells bR 46)) (.cells (zY (.pointer none) (fun _ _=>0)).toArray 78);simpa using this)
 obtain⟨f,Uw⟩:∃f,f=(t.tab i).num:=⟨_,rfl⟩;rw[<-Uw]at HN0 Qc NS;have HF:=O Uw;clear h h4 v1 v4 v4a v4b n0 c1 c2 c3 c4 c5 c6 hW4 hk hf hl hd hd0 Uw;unfold Ca at NS;go_enter func31,ntmps31
 go_wp2_with (first|((with_reducible refine dk 18 ?_);refine a_ rfl 73 (.tmp 17) rfl T (17+i*45+26) rfl (kU f) _ HN0.o underlying73 rfl af ?_;refine wpList_buildTo rfl 78 _ rfl (some 19) rfl [(1,.agg (kU f).toArray)] (by simp only[eC,cD,dp];rfl) (zY (.pointer none) f).toArray (WD f) ?_;refine kH rfl 78 rfl (some 9) rfl (zY (.pointer none) (fun _ _=>0)).toArray WE (U.heap.size+1) aR ?_;refine aG rfl 78 (.tmp 9) (.tmp 19) rfl (U.heap.size+1) (zY (.pointer none) f).toArray rfl rfl 78 (zY (.pointer none) (fun _ _=>0)).toArray Ji.o WG rfl (aar f) ?_;change wpList _ _ _ _ _ (zZ U f);have Mo:=GI U f;generalize zZ U f=W2 at *)|((with_reducible refine dk 24 ?_);rw[<-NS.o];refine a_ rfl 33 (.tmp 23) rfl T (17+i*45+1) rfl v.o.cells _ HV1.o underlying33 rfl af ?_)|fail)
 refine Qc.o.mono ?_;rintro e u⟨rfl,hu⟩;clear Mo NS HV1 Qc Ji HN0;obtain⟨v2, -, m1, -, -, m4⟩:=hu.tabs.at HI.o;obtain⟨m4a,m4b⟩:=(m4 (by rw[HD.o];decide)).fits;obtain⟨va,hcs⟩:=Oz hu v2.o v2.hs m4a;rw[m4b]at hcs;have ZL:=O m1;have wJ:=O hcs;clear hu m1 m4 m4a m4b hcs
 go_wp2_with (first|((with_reducible refine dk 30 ?_);refine a_ rfl 33 (.tmp 29) rfl T (17+i*45+1) rfl v2.o.cells _ ZL.o underlying33 rfl af ?_)|fail)
 refine wJ.o.mono ?_;rintro e u2⟨rfl,nj⟩;obtain⟨vb,d1,d2,⟨a1,n1,b1,rfl⟩,⟨a2,n2,b2,rfl⟩,hce⟩:=WH rfl nj;have HCE:=O hce;have tu:=O nj;clear nj hce ZL wJ;go_wp2_with fail
 refine HCE.o.mono ?_;rintro e u3⟨rfl,zu⟩;have RZ:=O (tu.o.tabs.di zu);have r3:=tu.o.rest.di zu;have UU:=O r3.rep;have Se:=O r3.kept;clear d1 d2 zu r3 HCE tu;rw[HF.o];clear HF;obtain⟨R,hR⟩:∃R,R=U.heap.size:=⟨_,rfl⟩;have XU:=O (show U.heap.size<=R from ab);have XV:=O (show a.heap.size<=R by have:=HA.o;omega);rw[<-hR]at UU ⊢;clear hR;have hfi:=z_.o.fails i
 by_cases hv:Gv (t.tab i).op t.num=Gv (t.tab i).op (t.tab i).num
 ·rw[bL hv];obtain⟨v3, -, k1, -, k3,k4⟩:=RZ.o.at HI.o;obtain⟨k4a,k4b⟩:=(k4 (by rw[HD.o];decide)).fits;have xh:=Bc u3 v3.o v3.hs k4a;rw[k4b]at xh;have EO:=O xh;have Tk:=O k1;clear xh k1 k3 k4 k4a k4b hfi;cases hw:(eO (t.tab i).op).2
  ·as_aux_lemma =>
    have HE:=O (show jZ t i=(nx t i (t.tab i).jy,(t.tab i).jy,true)by unfold jZ;rw[aA hv,hw];rfl);rw[hw]at EO;clear hv hw;go_wp2_with (first|((with_reducible refine dk 66 ?_);refine a_ rfl 33 (.tmp 65) rfl T (17+i*45+1) rfl v3.o.cells _ Tk.o underlying33 rfl af ?_)|fail)
    refine EO.o.mono ?_;rintro e u4⟨rfl,Cr⟩;have ht4:=RZ.o.di Cr;obtain⟨-, -, -, -, k3, -⟩:=ht4.at HI.o;have HV4:=O k3;have HEN:=O (Ee ht4 HI.o (t.tab i).jy (by rw[HD.o];decide) HL.o);have XB:=O (Cr.keep UU.o id);have Yy:=O (Se.o.trans (eH Cr));clear Cr ht4 k3 EO Tk RZ UU Se;generalize (t.tab i).jy=rr at *
    go_wp2_with (first|((with_reducible refine dk 99 ?_);refine a_ rfl 46 (.tmp 98) rfl T (17+i*45+42) rfl (qg rr) _ HV4.o underlying46 rfl af ?_)|fail)
    refine HEN.o.mono ?_;rintro e u5⟨rfl,z1,z2⟩;have Mx:=O (z2.block XB.o rO);have Qf:=O z1;have HZ2:=O (Yy.o.trans z2);clear z1 z2;go_wp2_with (first|((with_reducible refine cV 46 ?_);refine aG rfl 46 (.tmp 6) (.tmp 101) rfl R #[.int .i64 rr.what,.string rr.head,.int .i64 rr.cert] rfl rfl _ bR Mx.o (bf _ rfl) rfl ct ?_)|fail)
    refine aU (ji bC _ _ R 46 #[.int .i64 rr.what,.string rr.head,.int .i64 rr.cert] (0,0) _ rfl (aY _ R _ _ _ _ Mx.o) underlying46 rfl (bf _ rfl)) rfl ?_;rw[HE.o];exact Cv Qf.o HZ2.o XU.o XV.o Mx.o _ rfl
  ·as_aux_lemma =>
    have HE:=O (show jZ t i=(nx {t with w:=mE t.w (t.tab i).seen (t.tab i).op.part (eO (t.tab i).op).1,num:=Gw (t.tab i).op t.num} i (t.tab i).jy,(t.tab i).jy,true)by unfold jZ;rw[aA hv,hw];rfl);rw[hw]at EO;clear hv hw;go_wp2_with (first|((with_reducible refine dk 66 ?_);refine a_ rfl 33 (.tmp 65) rfl T (17+i*45+1) rfl v3.o.cells _ Tk.o underlying33 rfl af ?_)|fail)
    refine EO.o.mono ?_;rintro e u4⟨rfl,Cr⟩;have ht4:=RZ.o.di Cr.drew;have XB:=O (show u4.drew.heap[R]?=some (.cells bR 46 (0,0))from Cr.drew.keep UU.o id);have Yy:=O (Se.o.trans (eH Cr.drew));obtain⟨B,g,sv,sb,p1,p2,p3,p4⟩:=ht4.ex;have ql:=(p4 i HI.o).2 (Or.inr HD.o);have Co:(g i).o.aJ.part=(t.tab i).op.part:=by rw[<-((p4 i HI.o).1 (by rw[HD.o];decide)).is];rfl
    have Qx:=O (df.main p1 p2 p3 p4 ht4.low ht4.fr (x':=mE t.w (t.tab i).seen (t.tab i).op.part (eO (t.tab i).op).1) (fun pv hw=>by
     obtain⟨qv,hq⟩:=p2.at (i:=i) (B:=sb i) (x:=(t.tab i).seen) (by
      have:=HI.o;unfold oU;rw[ar ab,ar ab,aA ⟨HI.o,Or.inr HD.o⟩])
     exact Sm hw hq (z_.o.seen i (Or.inr HD.o)) (t.tab i).op.part (Sf _)))
    have m0:=p1.main;have m25:u4.drew.cell? ⟨T,17+i*45+25,none⟩=some (.pointer (some ⟨sb i,0,none⟩)):=by rw[<-ql];exact p1.tab i HI.o 25 _ rfl
    have m2:u4.drew.cell? ⟨T,17+i*45+1+1,none⟩=some (.int .i64 (t.tab i).op.part):=by rw[<-Co];exact p1.tab i HI.o 2 _ rfl
    have xF:=O ql;have HPT:=O Co;clear Cr ht4 p1 p2 p3 p4 ql Co EO Tk RZ UU Se;obtain⟨cn,Mv⟩:∃cn:Nat,cn=(eO (t.tab i).op).1:=⟨_,rfl⟩;obtain⟨pt,Co⟩:∃pt:Int,pt=(t.tab i).op.part:=⟨_,rfl⟩;have HCN:=O Mv;have HPN:=O Co;rw[<-Mv, <-Co]at Qx;rw[<-Co]at m2;rw[<-Mv];clear Mv Co;go_wp2_with fail
    refine wp_region_held_drew (S:=(fun V=>V.cell? ⟨T,0,none⟩=some (.pointer (some ⟨B,0,none⟩))/\V.cell? ⟨T,17+i*45+25,none⟩=some (.pointer (some ⟨sb i,0,none⟩))/\V.cell? ⟨T,17+i*45+1+1,none⟩=some (.int .i64 pt))) af (by exact⟨m0,m25,m2⟩) ?_;intro Aj;refine aW 0 71 rfl ?_;refine aW 1 72 rfl ?_;refine aW 2 73 rfl ?_;refine aW 3 74 rfl ?_;refine aW 4 75 rfl ?_;refine aW 5 76 rfl ?_;refine aW 6 77 rfl ?_
    refine aW 7 78 rfl ?_;refine aW 8 79 rfl ?_;refine aW 9 80 rfl ?_;refine aW 10 81 rfl ?_;refine aW 11 82 rfl ?_;refine aW 12 83 rfl ?_;refine aW 13 84 rfl ?_;refine aW 14 85 rfl ?_;refine eT 15 rfl fun K hK=>?_;go_simp;refine Qx.o.mono ?_;rintro e u5⟨rfl,z1,z2,z3⟩;have Qf:=O z1;have Mx:=O ((gN.Oa z3).block XB.o rO);have HK5:=O (Yy.o.trans (gN.Oa z3))
    have yl:u5.cell? ⟨T,0,none⟩=some (.pointer (some ⟨B,0,none⟩))/\u5.cell? ⟨T,17+i*45+25,none⟩=some (.pointer (some ⟨sb i,0,none⟩))/\u5.cell? ⟨T,17+i*45+1+1,none⟩=some (.int .i64 pt):=⟨z2.main,by rw[<-xF.o];exact z2.tab i HI.o 25 _ rfl,by rw[HPN.o, <-HPT.o];exact z2.tab i HI.o 2 _ rfl⟩;refine hK.out _ _ yl ?_;intro BJ;clear hK K Aj yl BJ z1 z2 z3 m0 m25 m2 Qx XB Yy;refine wpAnyH_done af ?_ _
    have ht5:=Qf.o;obtain⟨v6, -, k1, -, -, k4⟩:=ht5.at HI.o;obtain⟨k4a,k4b⟩:=(k4 (show((t.tab i).does≠0)by rw[HD.o];decide)).fits;have hkp:Ow T (fun V=>V.heap[R]?=some (.cells bR 46 (0,0))/\gN U V):=fun V V' c hS hc hF=>⟨hF.keep hS.1 (fun e=>by
     cases(show R=T from e);have:=hS.1;rw[hc]at this;cases this),hS.2.tabs hc hF⟩
    have hnu:=v_ u5 T v6.o v6.hs _ #[] call55 (Wz xw a T {t with w:=mE t.w (t.tab i).seen pt cn} (fun V=>V.heap[R]?=some (.cells bR 46 (0,0))/\gN U V)) ⟨by rw[Sn];exact ht5,Mx.o,HK5.o⟩ (fun d V V' hV hf=>hV.di hkp hf) (aao hkp (fun p i=>⟨(z_.o.num p i).1,by have h1:=(z_.o.num p i).2;have h2:=XR.o;show t.num p i<_;omega⟩)) k4a;rw[show v6.o.dS v6.hs=(t.tab i).op from k4b]at hnu;have HNU:=O hnu
    have HV6:=O k1;clear ht5 k1 k4 k4a k4b hkp hnu Qf Mx HK5;go_wp2_with (first|((with_reducible refine dk 91 ?_);refine a_ rfl 33 (.tmp 90) rfl T (17+i*45+1) rfl v6.o.cells _ HV6.o underlying33 rfl af ?_)|fail)
    refine HNU.o.mono ?_;rintro e u6⟨rfl,hu6⟩;have ht6:=hu6.tabs;obtain⟨-, -, -, -, k3, -⟩:=ht6.at HI.o;have HV4:=O (show u6.rangeAt T (17+i*45+42) (qg (t.tab i).jy)from k3);have hen:=Ee ht6 HI.o (t.tab i).jy (show(t.tab i).does≠0 by rw[HD.o];decide) HL.o;have XB:=O hu6.rest.1;have Yy:=O hu6.rest.2
    have HEE:=O (show({t with w:=mE t.w (t.tab i).seen (t.tab i).op.part (eO (t.tab i).op).1,num:=Gw (t.tab i).op t.num}:im)={({t with w:=mE t.w (t.tab i).seen pt cn}:im)with num:=wa (mT (t.tab i).op) t.num}from by rw[HPN.o,HCN.o];rfl);rw[HEE.o]at HE;have HEN:=O hen;clear hu6 ht6 k3 hen HNU HV6 HEE;generalize (t.tab i).jy=rr at *
    go_wp2_with (first|((with_reducible refine dk 99 ?_);refine a_ rfl 46 (.tmp 98) rfl T (17+i*45+42) rfl (qg rr) _ HV4.o underlying46 rfl af ?_)|fail)
    refine HEN.o.mono ?_;rintro e u5⟨rfl,z1,z2⟩;have Mx:=O (z2.block XB.o rO);have Qf:=O z1;have HZ2:=O (Yy.o.trans z2);clear z1 z2;go_wp2_with (first|((with_reducible refine cV 46 ?_);refine aG rfl 46 (.tmp 6) (.tmp 101) rfl R #[.int .i64 rr.what,.string rr.head,.int .i64 rr.cert] rfl rfl _ bR Mx.o (bf _ rfl) rfl ct ?_)|fail)
    refine aU (ji bC _ _ R 46 #[.int .i64 rr.what,.string rr.head,.int .i64 rr.cert] (0,0) _ rfl (aY _ R _ _ _ _ Mx.o) underlying46 rfl (bf _ rfl)) rfl ?_;rw[HE.o];exact Cv Qf.o HZ2.o XU.o XV.o Mx.o _ rfl
 ·rw[bD hv];have q0:(0:Int)<=((t.tab i).fails:Int):=ab;have q3:((t.tab i).fails:Int)<=3:=ab;have hfz:=RZ.o;obtain⟨B,g,sv,sb,p1, -⟩:=hfz.ex;have c23:u3.cell? ⟨T,17+i*45+23,none⟩=some (.int .i64 (t.tab i).fails):=p1.tab i HI.o 23 _ rfl;have f23:=p1.free (17+i*45+23)
  obtain⟨s1,s2⟩:=hfz.WA HI.o (j:=23) ag (.int .i64 ((t.tab i).fails+1:Nat)) (x:={t.tab i with fails:=(t.tab i).fails+1}) (fun _=>rfl) rfl id (fun h=>⟨h,rfl⟩);rw[show(((t.tab i).fails+1:Nat):Int)=((t.tab i).fails:Int)+1 from ab]at s1 s2;obtain⟨cT,IK⟩:=hfz.kind;have hRT:R≠T:=fun e=>by
   have:=UU.o;rw[e,IK]at this;cases this
  have Mx:=O (s2.keep UU.o (fun e=>hRT e));have HK5:=O (Se.o.tabs IK s2);have HS1:=O s1;clear hfz p1 s1 s2 IK RZ UU Se;by_cases h3:((t.tab i).fails:Int)+1<=3
  ·as_aux_lemma =>
    have HE:=O (show jZ t i=(t.put i {t.tab i with fails:=(t.tab i).fails+1,does:=1},rep 0,false)by unfold jZ;rw[ar hv,aA ab]);obtain⟨b1,b2⟩:=HS1.o.WA HI.o (j:=0) ag (.int .i64 1) (x:={t.tab i with fails:=(t.tab i).fails+1,does:=1}) (fun _=>by rw[mH];rfl) (by rw[mH]) (fun _=>by rw[mH];show(t.tab i).does≠0;rw[HD.o];decide) (fun h=>by simp at h);rw[aat,show 17+i*45+0=17+i*45 from rfl]at b1
    rw[show 17+i*45+0=17+i*45 from rfl]at b2;have SL:=O b1;obtain⟨cT5,aj2⟩:=HS1.o.kind;have Jh:=O (b2.keep Mx.o (fun e=>hRT e));have HK6:=O (HK5.o.tabs aj2 b2);obtain⟨B5,g5,sv5,sb5,p5, -⟩:=HS1.o.ex;have c0:=p5.tab i HI.o 0 _ rfl;rw[show 17+i*45+0=17+i*45 from rfl]at c0;have f0:=p5.free (17+i*45);clear hv b1 b2 aj2 p5 HS1 Mx HK5
    go_wp2_with (first|((with_reducible refine cV 46 ?_);refine aG rfl 46 (.tmp 6) (.tmp 53) rfl R #[.int .i64 0,.string ⟨#[]⟩,.int .i64 0] rfl rfl _ bR Jh.o (bf _ rfl) rfl ct ?_)|fail)
    refine aU (ji bC _ _ R 46 #[.int .i64 0,.string ⟨#[]⟩,.int .i64 0] (0,0) _ rfl (aY _ R _ _ _ _ Jh.o) underlying46 rfl (bf _ rfl)) rfl ?_;rw[HE.o];exact Cv SL.o HK6.o XU.o XV.o Jh.o _ rfl
  ·as_aux_lemma =>
    have HE:=O (show jZ t i=(nx (t.put i {t.tab i with fails:=(t.tab i).fails+1}) i (rep 6),rep 6,true)by unfold jZ;rw[ar hv,ar ab]);have HEN:=O (Ee HS1.o HI.o (rep 6) (by rw[mH];show(t.tab i).does≠0;rw[HD.o];decide) HL.o);clear hv;go_wp2_with fail
    refine HEN.o.mono ?_;rintro e u5⟨rfl,z1,z2⟩;have Jh:=O (z2.block Mx.o rO);have Qf:=O z1;have HZ2:=O (HK5.o.trans z2);clear z1 z2;go_wp2_with (first|((with_reducible refine cV 46 ?_);refine aG rfl 46 (.tmp 6) (.tmp 59) rfl R #[.int .i64 6,.string ⟨#[]⟩,.int .i64 0] rfl rfl _ bR Jh.o (bf _ rfl) rfl ct ?_)|fail)
    refine aU (ji bC _ _ R 46 #[.int .i64 6,.string ⟨#[]⟩,.int .i64 0] (0,0) _ rfl (aY _ R _ _ _ _ Jh.o) underlying46 rfl (bf _ rfl)) rfl ?_;rw[HE.o];exact Cv Qf.o HZ2.o XU.o XV.o Jh.o _ rfl
end
section
variable {xw : Option (Nat × dN)} {a U U' : World} {T : Nat} {t : im}
def qj(xw:Option (Nat×dN))(a U:World)(T:Nat)(r:im×(kM×Bool×Nat))(e:Ending)(w':World):Prop :=
 e=.returned (.tuple #[.agg #[.int .i64 r.2.1.what,.string r.2.1.head,.int .i64 r.2.1.cert],.bool r.2.2.1,xa r.2.2.2])/\df xw a w' T r.1/\gN U w'
theorem step_end{r:kM×Bool×Nat}(h:df xw a W T t')(hk:gN U W)(hR:U.heap.size<=R)(ha:a.heap.size<=R)(hr:W.heap[R]?=some (.cells bR 46 (0,0)))(cs:bS)(he:e=.returned (.tuple #[.agg #[.int .i64 r.1.what,.string r.1.head,.int .i64 r.1.cert],.bool r.2.1,xa r.2.2])):qj xw a U T (t',r) e (W.setRow R cs) :=
 ⟨he,h.far ((ae (one R) _).setRow (fun _=>rfl) _) (fun n hn=>by have e':n=R:=hn;omega) (fun n hn=>by cases(show n=R from hn);exact⟨_,_,hr,ID⟩),hk.new ((ae (one R) _).setRow (fun _=>rfl) _) hR⟩
def aav(a:World)(x:dN)(op:kl):Prop:=∀(V:World) (B:Nat) (pv:Nat->cU) (o:jz) (hs:List gY),o.dS hs=op->cE a.heap.size V B pv x->Fr aS a V->gB V o hs ->
 aB 30 #[.pointer (some ⟨B,0,none⟩),.agg o.cells.toArray] V fun e w'=>e=.returned (.agg #[.int .i64 (mi x op).2.what,.string (mi x op).2.head,.int .i64 (mi x op).2.cert])/\dr a.heap.size V B pv (mi x op).1 w'
theorem df.tick(h:df xw a U T t)(k:Int):df xw a (U.setCell ⟨T,287,none⟩ (.int .i64 k)) T {t with steps:=k}/\Fr (one T) U (U.setCell ⟨T,287,none⟩ (.int .i64 k)):=by
 obtain⟨B,g,sv,sb,h1,h2,h3,h4⟩:=h.ex;have q:=h1.D8 k;exact⟨kt (t':={t with steps:=k}) h1 h2 h3 h4 h.low h.fr q rfl (fun _ _ hp=>hp) (fun j hj=>⟨fun hd=>Or.inl ⟨rfl,rfl,rfl,hd⟩,(h4 j hj).2⟩),q.2⟩
theorem df.cells(h:df xw a U T t)(hi:i<6):U.cell? ⟨T,17+i*45,none⟩=some (.int .i64 (t.tab i).does)/\U.cell? ⟨T,287,none⟩=some (.int .i64 t.steps)/\(∀k,U.frozen? ⟨T,k,none⟩=false)/\U.rangeAt T 1 (kU t.num)/\(∀o n,o+n<=289->U.there T o n):=by
 obtain⟨B,g,sv,sb,h1,h2,h3,h4⟩:=h.ex;exact⟨h1.tab i hi 0 _ rfl,h1.steps,fun k=>h1.free k,h1.num,fun o n hn=>h1.there hn⟩
theorem IL{b o:Nat}{p r:aX}(h:U.rangeAt b o (p++(q++r)))(hl:q'.length=q.length)(ht:U.there b (o+p.length) q'.length):(U.setCells b (o+p.length) q').rangeAt b o (p++(q'++r)):=fun j v hj=>by
 by_cases h1:j<p.length
 ·rw[List.getElem?_append_left h1]at hj;rw[World.cell?_setCells_out b q' _ U ⟨b,o+j,none⟩ (fun _ _=>Or.inl (show o+j<o+p.length from ab))];exact h j v (by rw[List.getElem?_append_left h1];exact hj)
 ·by_cases h2:j<p.length+q'.length
  ·rw[List.getElem?_append_right ab,List.getElem?_append_left ab]at hj;have:=World.rangeAt_setCells_same U b (o+p.length) q' ht (j-p.length) v hj
   rwa [show o+p.length+(j-p.length)=o+j from ab]at this
  ·rw[List.getElem?_append_right ab,List.getElem?_append_right ab]at hj;rw[World.cell?_setCells_out b q' _ U ⟨b,o+j,none⟩ (fun _ _=>Or.inr (show o+p.length+q'.length<=o+j from ab))];exact h j v (by rw[List.getElem?_append_right ab,List.getElem?_append_right ab, <-hl];exact hj)
theorem f_.WI(h:f_ U T B g sv t)(hn:n<6){p r:aX}{w:qB}(hx:mQ (t.tab n) (g n)=p++(q++r))(hl:q'.length=q.length)(TS:mQ x w=p++(q'++r)) :
  f_ (U.setCells T (17+n*45+p.length) q') T B (fun i=>if i=n then w else g i) sv (t.put n x)/\Fr (one T) U (U.setCells T (17+n*45+p.length) q'):=by
 have hlen:p.length+q'.length<=45:=by
  have:=qh x w;rw[TS]at this;simp at this;omega
 refine⟨⟨lK T _ _ q' _ _ h.eJ,eU h.main (Or.inl ab),bX h.num T _ q' (Or.inr (Or.inl (by rw[ny];omega))),fun m hm=>?_,eU h.steps (Or.inr ab),eU h.st (Or.inr ab)⟩,mF T q' _ _ (ae _ _)⟩;by_cases e:m=n
 ·subst e;show World.rangeAt _ T (17+m*45) (mQ (if m=m then x else t.tab m) (if m=m then w else g m));rw[aA rfl,aA rfl,TS];have:=h.tab m hm;rw[hx]at this;exact IL this hl (h.there ab)
 ·show World.rangeAt _ T (17+m*45) (mQ (if m=n then x else t.tab m) (if m=n then w else g m));rw[ar e,ar e];exact bX (h.tab m hm) T _ q' (by
   right;rw[qh];rcases fF m n with q|q
   ·left;omega
   ·right;omega)
theorem Eh{P:Program}{ops:Array Oper}{a:Act}{w:World}{K:Act->World->Prop}{Q:Exit->Act->World->Prop}{E:Prop}{op:Oper}(yE:op.guard=none)(ty:TypeId)(x y:Operand)(ho:op.op=.store ty x y)
  (b o:Nat)(v:Value)(hx:a.eval x=.pointer (some ⟨b,o,none⟩))(hy:a.eval y=v)(hv:v.cells= #[v])
  (ht:w.there b o 1)(hi:(P.info? ty).map (·.size)=some 1)(h1:v.oneCell'=true)
  (h:K (a.put op.dst undef) (w.setCell ⟨b,o,none⟩ v)):if Region.wanted op (yielded ops a.tmps)=true then Oper.wp P op a w K Q else E:=by
 have hw:Region.wanted op (yielded ops a.tmps)=true:=by simp[Region.wanted,yE]
 rw[aA hw];have hr:(storeVar ty ⟨b,o,none⟩ v).run P w=.ok () (w.setCells b o [v]):=by
  have e:storeVar ty ⟨b,o,none⟩ v=storeVar ty ⟨b,o,none⟩ (.agg #[v]):=by
   unfold storeVar;rw[hv];rfl
  rw[e];exact run_storeVar_mid w b o ty #[v] ht hi (by simp[h1])
 unfold Oper.wp execOp;simp only[ho,hx,hy,Instr.storeAt,Instr.sureAddr,Sem.run_bind,Sem.run_pure,Result.andThen_ok,hr];exact h
theorem WJ(r:kM):(qg r).toArray.all (·.oneCell')=true :=
 bW (by
  intro u hu;unfold qg at hu;simp only[bB,cz,dU]at hu;rcases hu with rfl|rfl|rfl<;>rfl)
theorem WK(f:Nat->Nat->Int):(kU f).toArray.all (·.oneCell')=true :=
 bW (by
  intro u hu;unfold kU at hu;simp only[bB,cz,dU]at hu;rcases hu with rfl|rfl|rfl|rfl|rfl|rfl|rfl|rfl|rfl|rfl|rfl|rfl|rfl|rfl|rfl|rfl<;>rfl)
theorem df.asm{c:bS}(hb:f_ W T B g sv t)(hw:xz a.heap.size U (oU xw B sb t))(he:ph a.heap.size U sv t.fJ)(ho:∀n,n<6->(t.tab n).does≠0->j_ a.heap.size U ((g n).o,(g n).hs) (t.tab n).op)(hp:∀n,n<6->(t.tab n).does=2\/(t.tab n).does=3->(g n).sp=.pointer (some ⟨sb n,0,none⟩))(hc:U.heap[T]?=some (.cells c 78 (0,0)))(hF:Fr (one T) U W)(k_:a.heap.size<=T)(cL:Fr aS a U):df xw a W T t :=
 ⟨⟨B,g,sv,sb,hb,hw.one k_ hc rh.1 rh.2 ag hF,he.one hc ag ag hF,fun n hn=>⟨fun hd=>(ho n hn hd).one hc ag hF,hp n hn⟩⟩,k_,cL.step hF fun k hk e=>by
  have:k=T:=e;omega⟩
theorem Su{B C:Nat}{g:Nat->qB}{sv:Value}{sb:Nat->Nat}{i:Nat}{qv:Nat->cU}(hi:i<6)(h1:f_ U T B g sv t)(h2:xz a.heap.size U (oU xw B sb t))(h3:ph a.heap.size U sv t.fJ)
  (h4:∀n,n<6->((t.tab n).does≠0->j_ a.heap.size U ((g n).o,(g n).hs) (t.tab n).op)/\((t.tab n).does=2\/(t.tab n).does=3->(g n).sp=.pointer (some ⟨sb n,0,none⟩)))(hd:(t.tab i).does≠0)(k_:a.heap.size<=T)(cL:Fr aS a U)
  (hF:Fr aS U U')(hc:cE a.heap.size U' C qv t.w)(hn:∀j,lJ C qv j->U.heap.size<=j) :
  df xw a (((U'.setCell ⟨T,17+i*45+25,none⟩ (.pointer (some ⟨C,0,none⟩))).setCells T (17+i*45+26) (kU t.num)).setCell ⟨T,17+i*45,none⟩ (.int .i64 2)) T (t.put i {t.tab i with seen:=t.w,num:=t.num,does:=2})/\Fr (one T) U' (((U'.setCell ⟨T,17+i*45+25,none⟩ (.pointer (some ⟨C,0,none⟩))).setCells T (17+i*45+26) (kU t.num)).setCell ⟨T,17+i*45,none⟩ (.int .i64 2))/\((U'.setCell ⟨T,17+i*45+25,none⟩ (.pointer (some ⟨C,0,none⟩))).setCells T (17+i*45+26) (kU t.num)).cell? ⟨T,17+i*45,none⟩=some (.int .i64 (t.tab i).does)/\(∀k,((U'.setCell ⟨T,17+i*45+25,none⟩ (.pointer (some ⟨C,0,none⟩))).setCells T (17+i*45+26) (kU t.num)).frozen? ⟨T,k,none⟩=false)/\(U'.setCell ⟨T,17+i*45+25,none⟩ (.pointer (some ⟨C,0,none⟩))).there T (17+i*45+26) 16:=by
 have b1:=h1.fr hF id;have w1:xz a.heap.size U' (oU xw B (fun j=>if j=i then C else sb j) (t.put i {t.tab i with seen:=t.w,num:=t.num,does:=2})):=by
  refine(h2.add hF (i:=i) hc hn).sub fun j p hp=>?_;by_cases e:j=i
  ·subst e;rw[aA rfl];unfold oU at hp;rw[ar ab,ar ab]at hp;simpa[im.put,hi]using hp
  ·rw[ar e];unfold oU at hp ⊢;by_cases e6:j=6
   ·rw[aA e6]at hp ⊢;exact hp
   ·rw[ar e6]at hp ⊢;simpa[im.put,e]using hp
 have q1:=b1.Ct hi (j:=25) ag (.pointer (some ⟨C,0,none⟩)) (x:=t.tab i) (w:={g i with sp:=.pointer (some ⟨C,0,none⟩)}) rfl;have q2:=q1.1.WI (n:=i) hi (x:={t.tab i with num:=t.num}) (w:={g i with sp:=.pointer (some ⟨C,0,none⟩)})
  (p:=.int .i64 (t.tab i).does :: ((g i).o.cells++[.int .i64 (t.tab i).fails,.int .i64 (t.tab i).ng,.pointer (some ⟨C,0,none⟩)])) (q:=kU (t.tab i).num) (q':=kU t.num) (r:=qg (t.tab i).jy)
  (by simp only[mH,eb];rfl) rfl rfl
 have q3:=q2.1.Ct hi (j:=0) ag (.int .i64 2) (x:={t.tab i with num:=t.num,does:=2}) (w:={g i with sp:=.pointer (some ⟨C,0,none⟩)}) (by simp only[mH,eb];rfl);have EA:=(q1.2.trans q2.2).trans q3.2;obtain⟨c,IK,_⟩:=b1.eJ;refine⟨?_,EA,?_,q2.1.free,q1.1.there ab⟩
 ·refine df.asm (q3.1.same (t':=t.put i {t.tab i with seen:=t.w,num:=t.num,does:=2}) rfl (fun n hn=>?_) rfl) w1 (h3.kept (jh hF)) (fun n hn sF=>?_) (fun n hn sF=>?_) IK EA k_ (cL.trans hF)
  ·by_cases e:n=i
   ·subst e;simp only[mH,eb];rfl
   ·simp[im.put,e]
  ·by_cases e:n=i
   ·subst e;simp only[mH,eb];exact((h4 n hn).1 hd).kept (jh hF)
   ·simp only[im.put,ar e]at sF ⊢;exact((h4 n hn).1 sF).kept (jh hF)
  ·by_cases e:n=i
   ·subst e;simp
   ·simp only[im.put,ar e]at sF ⊢;exact(h4 n hn).2 sF
 ·exact q2.1.tab i hi 0 (.int .i64 (t.tab i).does) (by simp only[mH,eb];rfl)
theorem Sv{x':dN}(r:kM)(hi:i<6)(h1:f_ U T B g sv t)(h2:xz a.heap.size U (oU xw B sb (t.put i {t.tab i with seen:=x'})))(h3:ph a.heap.size U sv t.fJ)(h4:∀n,n<6->(t.tab n).does≠0->j_ a.heap.size U ((g n).o,(g n).hs) (t.tab n).op)(h5:∀n,n<6->(t.tab n).does=2\/(t.tab n).does=3->(g n).sp=.pointer (some ⟨sb n,0,none⟩))(hd:(t.tab i).does=2)(k_:a.heap.size<=T)(cL:Fr aS a U) :
  df xw a ((U.setCells T (17+i*45+42) (qg r)).setCell ⟨T,17+i*45,none⟩ (.int .i64 3)) T (t.put i {t.tab i with jy:=r,seen:=x',does:=3})/\Fr (one T) U ((U.setCells T (17+i*45+42) (qg r)).setCell ⟨T,17+i*45,none⟩ (.int .i64 3))/\(U.setCells T (17+i*45+42) (qg r)).cell? ⟨T,17+i*45,none⟩=some (.int .i64 (t.tab i).does)/\(∀k,(U.setCells T (17+i*45+42) (qg r)).frozen? ⟨T,k,none⟩=false)/\U.there T (17+i*45+42) 3:=by
 have q2:=h1.WI (n:=i) hi (x:={t.tab i with jy:=r}) (w:=g i)
  (p:=.int .i64 (t.tab i).does :: ((g i).o.cells++(.int .i64 (t.tab i).fails :: .int .i64 (t.tab i).ng :: (g i).sp :: kU (t.tab i).num))) (q:=qg (t.tab i).jy) (q':=qg r) (r:=[])
  rfl rfl rfl
 have q3:=q2.1.Ct hi (j:=0) ag (.int .i64 3) (x:={t.tab i with jy:=r,does:=3}) (w:=g i) (by simp only[mH,eb];rfl);have EA:=q2.2.trans q3.2;obtain⟨c,IK,_⟩:=h1.eJ;refine⟨?_,EA,?_,q2.1.free,h1.there ab⟩
 ·refine df.asm (q3.1.same (t':=t.put i {t.tab i with jy:=r,seen:=x',does:=3}) rfl (fun n hn=>?_) rfl) (h2.sub (N9 rfl fun n hn sF=>?_)) h3 (fun n hn sF=>?_) (fun n hn sF=>?_) IK EA k_ cL
  ·by_cases e:n=i
   ·subst e;simp only[mH,eb];rfl
   ·simp[im.put,e]
  ·by_cases e:n=i
   ·subst e;simp[im.put,hd]
   ·simp only[im.put,ar e]at sF ⊢;exact⟨sF,trivial⟩
  ·by_cases e:n=i
   ·subst e;simp only[mH,eb];exact h4 n hn ab
   ·simp only[im.put,ar e]at sF ⊢;exact h4 n hn sF
  ·by_cases e:n=i
   ·subst e;simp only[eb];exact h5 n hn (Or.inl hd)
   ·simp only[im.put,ar e]at sF ⊢;exact h5 n hn sF
 ·exact q2.1.tab i hi 0 (.int .i64 (t.tab i).does) (by simp only[mH,eb];rfl)
end
