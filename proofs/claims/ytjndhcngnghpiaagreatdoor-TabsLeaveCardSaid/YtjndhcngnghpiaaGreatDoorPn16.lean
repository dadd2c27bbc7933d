/- Lemmas for the law's walk. -/
import Derived.Test.YtjndhcngnghpiaaGreatDoorPn15
import Derived.Deep.Onto
set_option maxRecDepth 100000
set_option maxHeartbeats 16000000
set_option linter.unusedSimpArgs false
namespace Go.Proofs.YtjndhcngnghpiaaGreatDoor
open Go.Proofs.Tryz
open Go.RowKit
variable {k b b' base:Nat} {w W:World} {v:Value} {xs:cY} {hs:List gY} {x:dN}
def qk(o:jz×List gY):Bool:=!n_ o.1.aJ o.2||decide ((900:Int)<(o.1.aJ.body.size:Int)+(o.1.text.size:Int)+(o.1.user.size:Int)+(o.1.pass.size:Int)+(o.1.bK.size:Int))
def Ep(os:List (jz×List gY)):Bool:=decide (os.length<=30)&&!(os.any qk)
theorem dV.det{ys:cY}(h:dV k w v xs)(h':dV k w v ys):xs=ys:=by
 obtain⟨o1,h1⟩:=h;obtain⟨o2,h2⟩:=h';rcases h1 with ⟨a,c,hv,hs,_⟩|⟨bk,o,c,hv,_,_,_,h4⟩<;>rcases h2 with ⟨a',c',rW,R2,_⟩|⟨Jf,o',c',rW,_,_,_,Z4⟩
 ·rw[hs,R2]
 ·rw[hv]at rW;injection rW with _ e _
  rw[hs];exact(dG.1 e.symm).symm
 ·rw[hv]at rW;injection rW with _ e _
  rw[R2];exact dG.1 e
 ·rw[hv]at rW;injection rW with ea e _
  injection ea with ea
  injection ea with e1 e2
  subst e1 e2;refine List.ext_getElem e (fun j hj hj'=>?_);have lx:=(o1 _ (bM hj)).1;have ly:=(o2 _ (bM hj')).1;refine List.ext_getElem (lx.trans ly.symm) (fun i hi hi'=>?_);have q:=h4 j _ (List.getElem?_eq_getElem hj) i _ (List.getElem?_eq_getElem hi);have q':=Z4 j _ (List.getElem?_eq_getElem hj') i _ (List.getElem?_eq_getElem hi');rw[q]at q';injection q'
theorem WY{R2:List gY}(h:hs.map gY.cells=R2.map gY.cells):hs=R2:=by
 have:=aq (List.map Qi) h;rw[ic,ic]at this;have e:∀l:List gY,l.map (Qi ∘ gY.cells)=l:=fun l=>by
  induction l with
  |nil=>rfl
  |cons p l ih=>rw[cD,ih];rfl
 rw[e,e]at this;exact this
theorem jz.SC{o o':jz}(h:o.cells=o'.cells):o=o':=by
 obtain⟨a,⟨b,⟨c1,c2,c3⟩,⟨d1,d2,d3⟩,e1,e2,e3,e4,e5,e6⟩,f,g,h1,h2,i,j,k,l⟩:=o;obtain⟨a',⟨b',⟨c1',c2',c3'⟩,⟨d1',d2',d3'⟩,e1',e2',e3',e4',e5',e6'⟩,f',g',Hv,h2',i',j',k',l'⟩:=o';simp only[jz.cells,gl.cells,List.cons_append,List.nil_append,fD,Value.bool.injEq,Value.string.injEq,Value.int.injEq,true_and,iE]at h
 obtain⟨rfl,rfl,rfl,rfl,rfl,rfl,rfl,rfl,rfl,rfl,rfl,rfl,rfl,rfl,rfl,rfl,rfl,rfl,rfl,rfl,rfl,rfl⟩:=h;rfl
theorem WZ{o o':jz×List gY}(h:sM w o.1 o.2)(h':sM w o'.1 o'.2)(e:o.1.cells=o'.1.cells):o=o':=by
 have e1:=jz.SC e;have h2:=h'.aJ.en;rw[<-e1]at h2;have e2:=WY (h.aJ.en.det h2);exact Prod.ext e1 e2
theorem SD(o:jz)(hs:List gY)(w:World)(h:sM w o hs) :
  aB 26 #[.agg o.cells.toArray] w fun e w'=>e=.returned (.bool (qk (o,hs)))/\Fr aS w w':=by
 obtain⟨⟨hh,hl,oZ,hz,hbd,_,_,_⟩,ake,akf,akg,zcn,_,_,_⟩:=h;obtain⟨wb,jQ⟩:∃wb,wb=w.alloc (.cells o.cells.toArray 33):=⟨_,rfl⟩;have kf:Fr aS w wb:=by rw[jQ];exact(ae aS w).alloc _
 have lW:wb.heap[w.heap.size]?=some (.cells o.cells.toArray 33 (0,0)):=by rw[jQ];exact aC _ _
 obtain⟨ah,ch,gD⟩:=dI hh;rw[ai]at gD;have HC:=O (show∀U,Fr aS wb U->U.cell? ⟨w.heap.size,13,none⟩=some (.string o.aJ.body)/\U.cell? ⟨w.heap.size,15,none⟩=some (.string o.text)/\U.cell? ⟨w.heap.size,16,none⟩=some (.string o.user)/\U.cell? ⟨w.heap.size,17,none⟩=some (.string o.pass)/\U.cell? ⟨w.heap.size,18,none⟩=some (.string o.bK)from fun U hU=>by
  obtain⟨a0,a1,a2,a3,a4,a5,a6,a7,a8,a9,jA,jB,a12,jx,jC,jd,jK,jL,jM,jU,a20,a21⟩:=eh (hU.keep lW id) gD;exact⟨jx,jd,jK,jL,jM⟩)
 have XH:=O (IY o.aJ hs wb (bh hh kf) hl oZ hz);obtain⟨a0,a1,a2,a3,a4,a5,a6,a7,a8,a9,jA,jB,a12,jx,jC,jd,jK,jL,jM,jU,a20,a21⟩:=eh lW gD;rw[jQ]at a1 a2 a3 a4 a5 a6 a7 a8 a9 jA jB a12 jx;rw[dZ gD]at jQ a1 a2 a3 a4 a5 a6 a7 a8 a9 jA jB a12 jx ⊢;rw[zL gD]at XH;have mh:=O kf;have qL:=O jQ;clear hh hl oZ hz kf lW gD jQ a0 jC jd jK jL jM jU a20 a21;cases hrf:n_ o.aJ hs
 ·have HR:=O (show qk (o,hs)=true by unfold qk;simp only;rw[hrf];rfl);rw[hrf]at XH;clear hrf;go_enter func26,ntmps26;go_wp2_with fail
  rw[<-qL.o];refine XH.o.mono ?_;rintro e u⟨rfl,hf⟩;clear a1 a2 a3 a4 a5 a6 a7 a8 a9 jA jB a12 jx;go_wp2;go_ret;exact⟨by rw[HR.o];rfl,mh.o.trans hf⟩
 ·have HR:=O (show qk (o,hs)=decide ((900:Int)<(o.aJ.body.size:Int)+(o.text.size:Int)+(o.user.size:Int)+(o.pass.size:Int)+(o.bK.size:Int))by unfold qk;simp only;rw[hrf];rfl);rw[hrf]at XH;clear hrf;go_enter func26,ntmps26;go_wp2_with fail
  rw[<-qL.o];refine XH.o.mono ?_;rintro e u⟨rfl,hf⟩;clear a1 a2 a3 a4 a5 a6 a7 a8 a9 jA jB a12 jx;obtain⟨b13,b15,b16,b17,b18⟩:=HC.o u hf;go_wp2;go_ret;exact⟨by rw[HR.o];rfl,mh.o.trans hf⟩
theorem Mg(v:Value)(os:List (jz×List gY))(w:World)(h:El w v os) :
  aB 8 #[v] w fun e w'=>e=.returned (.bool (Ep os))/\Fr aS w w':=by
 classical
 obtain⟨hv,hl,ha⟩:=h;obtain⟨av,cv,fH⟩:=hv.form;rw[ai]at fH;subst fH;obtain⟨p,hp⟩:∃p:aX->Bool,∀o∈os,p o.1.cells=qk o:=⟨fun x=>decide (∃o∈os,o.1.cells=x/\qk o=true),fun o ho=>by
  cases hq:qk o
  ·refine bD (fun⟨o',Ey,e,Gy⟩=>?_);rw[WZ (ha o' Ey) (ha o ho) e,hq]at Gy;cases Gy
  ·exact bL ⟨o,ho,rfl,hq⟩⟩
 have Mw:=O (Cc _ #[] p _ _ w call26 (fun x hx u hu=>by
  obtain⟨o,ho,rfl⟩:=bZ.1 hx;rw[hp o ho];have h:=ha o ho;have h':sM u o.1 o.2:={h with aJ:={h.aJ with en:=bh h.aJ.en hu}};simpa using SD o.1 o.2 u h') hv)
 have ja:=O (show(os.map fun o=>o.1.cells).any p=os.any qk by
  rw[List.any_map];clear Mw hv hl
  induction os with
  |nil=>rfl
  |cons o os ih =>
   rw[List.any_cons,List.any_cons,ih (fun x hx=>ha x (bP _ hx)) (fun x hx=>hp x (bP _ hx))];show(p o.1.cells||_)=_;rw[hp o (cX ..)])
 clear hp ha hv;by_cases h30:os.length<=30
 ·have hb:=O (show Ep os=!(os.any qk)by unfold Ep;rw[bL h30];rfl);have i30:(os.length:Int)<=30:=ab;have d30:decide ((os.length:Int)<=30)=true:=bL i30;go_enter func8,ntmps8;go_wp2_with fail
  refine Mw.o.mono ?_;rw[ja.o];rintro e u⟨rfl,hf⟩;go_wp2;go_ret;exact⟨fy hb.o.symm,hf⟩
 ·have hb:=O (show Ep os=false by unfold Ep;rw[bD h30];rfl);have i30:¬(os.length:Int)<=30:=ab;have d30:decide ((os.length:Int)<=30)=false:=bD i30;go_enter func8,ntmps8;go_wp2;go_ret;exact⟨fy hb.o.symm,ae _ _⟩
theorem gB.aki{o:jz}(h:sM w o hs)(hb:qk (o,hs)=false):gB w o hs:=by
 obtain⟨⟨hh,hl,oZ,hz,hbd,z1,z2,z3⟩,ake,akf,akg,zcn,y1,y2,y3⟩:=h;unfold qk at hb;simp only[eK,Bool.not_eq_false',decide_eq_false_iff_not]at hb;obtain⟨h1,h2⟩:=hb;have hq:=h1;unfold n_ at hq;simp only[cF,dF]at hq;obtain⟨hf,hq⟩:=hq;have b1:=Go.bounds_i64 z1;have b2:=Go.bounds_i64 z2;have b3:=Go.bounds_i64 z3;have b4:=Go.bounds_i64 y1;have b5:=Go.bounds_i64 y2;have b6:=Go.bounds_i64 y3;unfold Mf at hf
 simp only[cF,dF,Bool.not_eq_true',eX]at hf;exact⟨hh,⟨ab,ab,fun p hp=>by
  have:=hf.2 p hp;unfold SB at this;rw[dF]at this;omega⟩,ab,ab,ab,ab,ab,ab,ab,ab,ab,ab,b2,b3,b1,b4,b5,b6⟩
theorem VB{P G:Nat->bS->World->Prop}{T:Prop}(main:(∀a b c,P a b c->G a b c)->T)(rest:∀a b c,P a b c->G a b c):T:=main rest
def sK(base:Nat)(a:World)(B off:Nat)(cs:aX)(v:cU)(p:eD)(n:Nat)(X:bS)(t:TypeId)(W:World):Prop :=
 ∃v',eP base W v' p/\Fr (zK B v) a W/\(∀k,v'.jT k->v.jT k\/a.heap.size<=k)/\W.heap[B]?=some (.cells (o8 cs off v').toArray 97 (0,0))/\W.heap[n]?=some (.cells X t (0,0))/\¬v'.jT n/\a.heap.size<=n
section
variable {base B off n : Nat} {a w3 u : World} {cs : List Value} {v : cU} {p p0 : eD} {z : Array Value} {t : TypeId}
theorem sK.core{v':cU}(h1:eP base u v' p)(h2:Fr (zK B v) a u)(h3:∀k,v'.jT k->v.jT k\/a.heap.size<=k)(h4:u.heap[B]?=some (.cells (o8 cs off v').toArray 97 (0,0)))(hn:u.heap[n]?=some (.cells z t (0,0)))(hf:¬v'.jT n)(VC:a.heap.size<=n)(ou:base<=a.heap.size)(hB:B<a.heap.size)(hs:t≠9)(X:bS) :
  sK base a B off cs v p n X t (u.setRow n X)/\∀vv ss,du base u vv ss->du base (u.setRow n X) vv ss:=by
 have kx:Fr (one n) u (u.setRow n X):=(ae (one n) u).setRow (fun _=>rfl) _;have mO:rR base u (one n):=by
  rintro k rfl _;exact⟨ab,fun c f e=>by rw[hn]at e;cases e;exact hs rfl⟩
 refine⟨⟨v',h1.fr kx mO (fun i hi e=>?_),h2.step kx (fun k hk e=>?_),h3,kx.keep h4 (fun e=>?_),lS hn,hf,VC⟩,fun vv ss h=>h.fr kx mO⟩
 ·have e':i=n:=e;subst e';exact hf hi
 ·have e':k=n:=e;omega
 ·have e':B=n:=e;omega
theorem sK.after(h:dm base a B cs off v p u)(ou:base<=a.heap.size)(hB:B<a.heap.size)(hs:t≠9)(z X:bS) :
  sK base a B off cs v p u.heap.size X t ((u.alloc (.cells z t)).setRow u.heap.size X)/\∀vv ss,du base u vv ss->du base ((u.alloc (.cells z t)).setRow u.heap.size X) vv ss:=by
 obtain⟨v',h1,h2,h3,h4⟩:=h;have gO:Fr aS u (u.alloc (.cells z t)):=(ae aS u).alloc _;obtain⟨g1,g2⟩:=sK.core (h1.di gO) (h2.alloc _) h3 (gO.keep h4 id) (aC _ _) (fun hf=>by have:=h1.jf hf;omega) h2.size ou hB hs X;exact⟨g1,fun vv ss hv=>g2 vv ss (hv.di gO)⟩
theorem sK.before(h0:eP base a v p0)(f3:Fr aS a w3)(VC:a.heap.size<=n)(hn:w3.heap[n]?=some (.cells z t (0,0)))(h:dm base w3 B cs off v p u)(ou:base<=a.heap.size)(hB:B<a.heap.size)(hs:t≠9)(X:bS) :
  sK base a B off cs v p n X t (u.setRow n X)/\∀vv ss,du base u vv ss->du base (u.setRow n X) vv ss:=by
 obtain⟨v',h1,h2,h3,h4⟩:=h;have hv:¬v.jT n:=fun hf=>by have:=h0.jf hf;omega
 have hl:=bj hn;refine sK.core h1 (fU (S:=zK B v) (f3.mono (fun _ _ h=>absurd h id)) h2 (fun _ _ h=>h)) (fun k hk=>?_) h4 (h2.keep hn (fun e=>?_)) (fun hf=>?_) VC ou hB hs X
 ·rcases h3 k hk with h|h
  ·exact Or.inl h
  ·exact Or.inr (aF f3.size h)
 ·rcases e with e|e
  ·omega
  ·exact hv e
 ·rcases h3 n hf with h|h
  ·exact hv h
  ·omega
end
theorem OwnRows.mono{e:TypeId}(h:OwnRows b e k w v xs)(hb:b'<=b):OwnRows b' e k w v xs:=⟨h.1,World.ownsRow.mono h.2 hb⟩
theorem eN.mono{n:Nat}{ps:List ef}(h:eN b w n v ps)(hb:b'<=b):eN b' w n v ps:=⟨aF hb h.low,h.eJ,OwnRows.mono h.rows hb⟩
def cpP(qv:Nat->cU)(k i:Nat):aX:=if i<k then(qv i).cells else [.pointer none,.pointer none,.slice none 0 0]
def cpC(qv:Nat->cU)(now:Int)(k:Nat):aX:=cpP qv k 0++(cpP qv k 1++(cpP qv k 2++(cpP qv k 3++[.int .i64 now])))
theorem V5(qv:Nat->cU)(now:Int)(hk:k<4)(v:cU):o8 (cpC qv now k) (k*3) v=cpC (yj qv k v) now (k+1):=by
 unfold o8 cpC cpP yj cU.cells
 match k,hk with
 |0,_=>rfl
 |1,_=>rfl
 |2,_=>rfl
 |3,_=>rfl
theorem aeu(qv:Nat->cU)(now:Int)(hk:k<4):(cpC qv now k)[k*3]?=some (.pointer none)/\(cpC qv now k)[k*3+1]?=some (.pointer none)/\(cpC qv now k)[k*3+2]?=some (.slice none 0 0):=by
 unfold cpC cpP
 match k,hk with
 |0,_=>exact⟨rfl,rfl,rfl⟩
 |1,_=>exact⟨rfl,rfl,rfl⟩
 |2,_=>exact⟨rfl,rfl,rfl⟩
 |3,_=>exact⟨rfl,rfl,rfl⟩
structure Lu (base:Nat) (w:World) (x:dN) (k:Nat) (qv:Nat->cU) (W:World):Prop where
 fr:Fr aS w W
 eJ:W.heap[w.heap.size]?=some (.cells (cpC qv x.now k).toArray 97 (0,0))
 part:∀i,i<k->eP base W (qv i) (x.part i)
 new:∀i,i<k->∀j,(qv i).jT j->w.heap.size<j
 apart:∀i j,i<k->j<k->i≠j->∀n,(qv i).jT n->¬(qv j).jT n
theorem Lu.step{U:World}{qv:Nat->cU}(h:Lu base w x k qv W)(hb:base<=w.heap.size)(hk:k<4)(hU:Fr aS W U){v:cU}(hp:eP base U v (x.part k))(hn:∀j,v.jT j->W.heap.size<=j) :
  Lu base w x (k+1) (yj qv k v) (((U.setCell ⟨w.heap.size,k*3,none⟩ (.pointer (some ⟨v.b,0,none⟩))).setCell ⟨w.heap.size,k*3+1,none⟩ (.pointer (some ⟨v.k,0,none⟩))).setCell ⟨w.heap.size,k*3+2,none⟩ v.cv):=by
 have hN:w.heap.size<W.heap.size:=bj h.eJ;have pR:=hU.keep h.eJ id;have Ez:Fr (one w.heap.size) U (((U.setCell ⟨w.heap.size,k*3,none⟩ (.pointer (some ⟨v.b,0,none⟩))).setCell ⟨w.heap.size,k*3+1,none⟩ (.pointer (some ⟨v.k,0,none⟩))).setCell ⟨w.heap.size,k*3+2,none⟩ v.cv) :=
  (((ae (one w.heap.size) U).setCell (p:=⟨w.heap.size,k*3,none⟩) (fun _=>rfl) _).setCell (p:=⟨w.heap.size,k*3+1,none⟩) (fun _=>rfl) _).setCell (p:=⟨w.heap.size,k*3+2,none⟩) (fun _=>rfl) _
 have mO:rR base U (one w.heap.size):=by
  rintro j rfl _;exact⟨hb,fun c f e=>by rw[pR]at e;cases e⟩
 have e1:=b_ pR (k*3) (.pointer (some ⟨v.b,0,none⟩));have e2:=b_ e1 (k*3+1) (.pointer (some ⟨v.k,0,none⟩));have e3:=b_ e2 (k*3+2) v.cv;have old:∀i,i<k->∀j,(qv i).jT j->j<W.heap.size:=fun i hi j hj=>(h.part i hi).jf hj
 refine⟨(((h.fr.trans hU).gF (p:=⟨w.heap.size,k*3,none⟩) (ay _) _).gF (p:=⟨w.heap.size,k*3+1,none⟩) (ay _) _).gF (p:=⟨w.heap.size,k*3+2,none⟩) (ay _) _,?_,fun i hi=>?_,fun i hi j hj=>?_,fun i j hi hj Qz n Jg AE=>?_⟩
 ·rw[e3, <-V5 qv x.now hk v];unfold o8;simp
 ·by_cases Mm:i=k
  ·subst Mm;rw[sJ];exact hp.fr Ez mO (fun j hj e=>by have e':j=w.heap.size:=e;have:=hn j hj;omega)
  ·rw[mD qv v Mm];have ai7:i<k:=ab;exact((h.part i ai7).di hU).fr Ez mO (fun j hj e=>by have e':j=w.heap.size:=e;have:=h.new i ai7 j hj;omega)
 ·by_cases Mm:i=k
  ·subst Mm;rw[sJ]at hj;have:=hn j hj;omega
  ·rw[mD qv v Mm]at hj;exact h.new i ab j hj
 ·by_cases Mm:i=k
  ·subst Mm;rw[sJ]at Jg;rw[mD qv v (kO Qz)]at AE;have a1:=hn n Jg;have a2:=old j ab n AE;omega
  ·rw[mD qv v Mm]at Jg;by_cases hjk:j=k
   ·subst hjk;rw[sJ]at AE;have a1:=hn n AE;have a2:=old i ab n Jg;omega
   ·rw[mD qv v hjk]at AE;exact h.apart i j ab ab Qz n Jg AE
theorem Lu.done{qv:Nat->cU}(h:Lu base w x 4 qv W)(hb:base<=w.heap.size):cE base W w.heap.size qv x :=
 ⟨hb,h.eJ,h.part,h.apart⟩
def ai8(base:Nat)(w:World)(x:dN)(t:Value)(wr:World):Prop:=∃(k:Nat) (qv:Nat->cU),k<=4/\t=.int .i64 k/\Lu base w x k qv wr
def Gt(base:Nat)(w:World)(x:dN)(e:Ending)(w':World):Prop :=
 ∃B qv,e=.returned (.pointer (some ⟨B,0,none⟩))/\cE base w' B qv x/\Fr aS w w'/\∀j,lJ B qv j->w.heap.size<=j
theorem A_(base:Nat)(w:World)(B:Nat)(pv:Nat->cU)(x:dN)(h:cE base w B pv x)(hs:∀i,i<4->(x.part i).bU.length<68719476736/\(x.part i).waits.length<68719476736/\(x.part i).book.length<1000000/\(x.part i).eB.length<=1000000) :
  aB 29 #[.pointer (some ⟨B,0,none⟩)] w (Gt base w x):=by
 have hb:base<=w.heap.size:=aF h.low (Nat.le_of_lt h.lt);obtain⟨x1,mI⟩:∃x1,x1=w.alloc (.cells #[.pointer none,.pointer none,.slice none 0 0,.pointer none,.pointer none,.slice none 0 0,.pointer none,.pointer none,.slice none 0 0,.pointer none,.pointer none,.slice none 0 0,.int .i64 x.now] 97):=⟨_,rfl⟩;have dn:Fr aS w x1:=by rw[mI];exact(ae _ _).alloc _
 have h0:Lu base w x 0 pv x1:=⟨dn,by rw[mI];exact aC _ _,fun i hi=>absurd hi (cq i),fun i hi=>absurd hi (cq i),fun i j hi=>absurd hi (cq i)⟩;have H0:=O h0;have HW:=O h;have HB:=O hb;have HS:=O hs;have pR:=h.eJ;have rN:=dn.keep h.eJ id;unfold iG cU.cells at pR rN;simp only[List.cons_append,List.nil_append]at pR rN;have Z1:w.cell? ⟨B,12,none⟩=some (.int .i64 x.now):=by simp only[World.cell?,pR];rfl
 have c0:x1.cell? ⟨B,0,none⟩=some (.pointer (some ⟨(pv 0).b,0,none⟩)):=by simp only[World.cell?,rN];rfl
 have c1:x1.cell? ⟨B,1,none⟩=some (.pointer (some ⟨(pv 0).k,0,none⟩)):=by simp only[World.cell?,rN];rfl
 have c2:x1.cell? ⟨B,2,none⟩=some ((pv 0).cv):=by simp only[World.cell?,rN];rfl
 have c3:x1.cell? ⟨B,3,none⟩=some (.pointer (some ⟨(pv 1).b,0,none⟩)):=by simp only[World.cell?,rN];rfl
 have c4:x1.cell? ⟨B,4,none⟩=some (.pointer (some ⟨(pv 1).k,0,none⟩)):=by simp only[World.cell?,rN];rfl
 have c5:x1.cell? ⟨B,5,none⟩=some ((pv 1).cv):=by simp only[World.cell?,rN];rfl
 have c6:x1.cell? ⟨B,6,none⟩=some (.pointer (some ⟨(pv 2).b,0,none⟩)):=by simp only[World.cell?,rN];rfl
 have c7:x1.cell? ⟨B,7,none⟩=some (.pointer (some ⟨(pv 2).k,0,none⟩)):=by simp only[World.cell?,rN];rfl
 have c8:x1.cell? ⟨B,8,none⟩=some ((pv 2).cv):=by simp only[World.cell?,rN];rfl
 have c9:x1.cell? ⟨B,9,none⟩=some (.pointer (some ⟨(pv 3).b,0,none⟩)):=by simp only[World.cell?,rN];rfl
 have Gd:x1.cell? ⟨B,10,none⟩=some (.pointer (some ⟨(pv 3).k,0,none⟩)):=by simp only[World.cell?,rN];rfl
 have Tg:x1.cell? ⟨B,11,none⟩=some ((pv 3).cv):=by simp only[World.cell?,rN];rfl
 have Y5:=O (show∀k:Nat,k<4->∀u,Sem.run prog (Instr.index 95 (.agg #[.pointer (some ⟨(pv 0).b,0,none⟩),.pointer (some ⟨(pv 0).k,0,none⟩),(pv 0).cv,.pointer (some ⟨(pv 1).b,0,none⟩),.pointer (some ⟨(pv 1).k,0,none⟩),(pv 1).cv,.pointer (some ⟨(pv 2).b,0,none⟩),.pointer (some ⟨(pv 2).k,0,none⟩),(pv 2).cv,.pointer (some ⟨(pv 3).b,0,none⟩),.pointer (some ⟨(pv 3).k,0,none⟩),(pv 3).cv]) (.int .i64 k)) u=.ok (.agg #[.pointer (some ⟨(pv k).b,0,none⟩),.pointer (some ⟨(pv k).k,0,none⟩),(pv k).cv]) u from fun k hk u=>by
  rcases(show k=0\/k=1\/k=2\/k=3 from ab)with rfl|rfl|rfl|rfl
  ·kernel_rfl
  ·kernel_rfl
  ·kernel_rfl
  ·kernel_rfl)
 have Mu:=O mI;rw[mI]at c0 c1 c2 c3 c4 c5 c6 c7 c8 c9 Gd Tg;clear h0 h hb hs pR rN mI dn;go_enter func29,ntmps29;go_wp2_with fail
 rw[<-Mu.o];clear c0 c1 c2 c3 c4 c5 c6 c7 c8 c9 Gd Tg Z1;go_loopw[16] (ai8 base w x) (fun i _=>4-(intOf i).toNat)
 case atStart=>exact⟨0,pv,aQ _,rfl,H0.o⟩
 case round =>
  obtain⟨k,qv,hk,rfl,hcp⟩:=hrel;by_cases fk:k<4
  ·have o_:(k:Int)<4:=ab;have NP:¬(k:Int)<0:=ab;have aoO:(0:Int)<=(k:Int):=ab;have aew:¬(4:Int)<=(k:Int):=ab;have wF:=Y5.o k fk;have Tm:=O hcp;have Z2:=O fk;obtain⟨cvk,aoP⟩:∃c,c=(pv k).cv:=⟨_,rfl⟩;obtain⟨ca,cc,Mw⟩:=(HW.o.part k fk).eB.form;rw[ai]at Mw;rw[Mw]at wF
   obtain⟨y1,Ex⟩:∃y1,y1=wr.alloc (.cells #[.pointer (some ⟨(pv k).b,0,none⟩),.pointer (some ⟨(pv k).k,0,none⟩),.slice ca (x.part k).eB.length cc] 94):=⟨_,rfl⟩;have hfy:Fr aS wr y1:=by rw[Ex];exact(ae _ _).alloc _
   have qM:y1.heap[wr.heap.size]?=some (.cells #[.pointer (some ⟨(pv k).b,0,none⟩),.pointer (some ⟨(pv k).k,0,none⟩),.slice ca (x.part k).eB.length cc] 94 (0,0)):=by rw[Ex];exact aC _ _
   have HWY:=O (HW.o.di (hcp.fr.trans hfy));have HFY:=O hfy;have HBY:=O qM;have XO:=O Ex;have HCF:=O Mw;have HC:=O (show∀U,Fr aS y1 U->(U.cell? ⟨wr.heap.size,0,none⟩=some (.pointer (some ⟨(pv k).b,0,none⟩))/\U.cell? ⟨wr.heap.size,1,none⟩=some (.pointer (some ⟨(pv k).k,0,none⟩))/\U.cell? ⟨wr.heap.size,2,none⟩=some (.slice ca (x.part k).eB.length cc))from fun U hU=>by
    have j:=hU.keep HBY.o id;refine⟨?_,?_,?_⟩<;>simp[World.cell?,j])
   have HKB:=O (show∀U,Fr aS y1 U->aB 39 #[.pointer (some ⟨(pv k).b,0,none⟩)] U (KK base U (x.part k).bU (x.part k).waits)from fun U hU=>U5 base U (pv k).b (pv k).gv (pv k).wv (x.part k).bU (x.part k).waits ((HWY.o.di hU).part k Z2.o).ot (HS.o k Z2.o).1 (HS.o k Z2.o).2.1)
   have HKK:=O (show∀U,Fr aS y1 U->aB 40 #[.pointer (some ⟨(pv k).k,0,none⟩)] U fun e w'=>∃b' v',e=.returned (.pointer (some ⟨b',0,none⟩))/\eN U.heap.size w' b' v' (x.part k).book/\Fr aS U w' from fun U hU=>Iu base U (pv k).k (pv k).kv (x.part k).book ((HWY.o.di hU).part k Z2.o).book (HS.o k Z2.o).2.2.1)
   have HKC:=O (show∀U,Fr aS y1 U->aB 41 #[.slice ca (x.part k).eB.length cc] U fun e w'=>∃v',e=.returned v'/\OwnRows U.heap.size 105 4 w' v' ((x.part k).eB.map kY)/\Fr aS U w' from fun U hU=>by
    have hh:=((HWY.o.di hU).part k Z2.o).eB.at;rw[HCF.o]at hh;exact P6 _ _ U hh (by rw[ai];have:=(HS.o k Z2.o).2.2.2;omega))
   clear hcp hfy qM Ex Mw aoP cvk fk;go_wp2_with fail
   rw[<-XO.o];refine wp_region_held_drew (S:=(fun U=>U.cell? ⟨wr.heap.size,0,none⟩=some (.pointer (some ⟨(pv k).b,0,none⟩))/\U.cell? ⟨wr.heap.size,1,none⟩=some (.pointer (some ⟨(pv k).k,0,none⟩))/\U.cell? ⟨wr.heap.size,2,none⟩=some (.slice ca (x.part k).eB.length cc))) af (HC.o _ (az (ae _ _))) ?_;intro Aj;refine aW 0 20 rfl ?_;refine aW 1 21 rfl ?_;refine aW 2 22 rfl ?_;refine aW 3 23 rfl ?_
   refine aW 5 25 rfl ?_;refine aW 6 26 rfl ?_;refine aW 8 28 rfl ?_;refine aW 9 29 rfl ?_;refine aW 12 32 rfl ?_;refine aW 13 33 rfl ?_;refine eT 4 rfl fun K hK=>?_;go_simp;refine(HKB.o _ (az (ae aS y1))).mono ?_;rintro e u1⟨kb,kg,kw,rfl,hb,hf,hn⟩;have lq:=O ((az (ae aS y1)).trans hf);have Jk:=O hf;have HGB:=O hb;have HGN:=O hn;clear hb hf hn;refine hK.out _ _ (HC.o _ lq.o) ?_;intro yl;clear hK Aj K
   try simp only[Act.put,sA,sB,sC]
   refine eT 7 rfl fun K hK=>?_;go_simp;refine(HKK.o _ (lq.o)).mono ?_;rintro e u2⟨kk,kv,rfl,hb,hf⟩;have fY:=O ((lq.o).trans hf);have XL:=O hf;have HGK:=O hb;clear hb hf;refine hK.out _ _ (HC.o _ fY.o) ?_;intro BJ;clear hK yl K
   try simp only[Act.put,sA,sB,sC]
   refine eT 10 rfl fun K hK=>?_;go_simp;refine(HKC.o _ (fY.o)).mono ?_;rintro e u3⟨kc,rfl,hb,hf⟩;have iq:=O ((fY.o).trans hf);have HQ3:=O hf;have HGC:=O hb;obtain⟨na,nc,VX⟩:=hb.form;rw[ai]at VX;subst VX;clear hb hf;refine hK.out _ _ (HC.o _ iq.o) ?_;intro E_;clear hK BJ K
   try simp only[Act.put,sA,sB,sC]
   refine aW 11 31 rfl ?_;refine aW 14 34 rfl ?_;refine eT 15 rfl fun K hK=>?_
   have jq:=Tm.o.step HB.o Z2.o (HFY.o.trans iq.o) (v:=⟨kb,kg,kw,kk,kv,.slice na (x.part k).eB.length nc⟩) ⟨HGB.o.di (XL.o.trans HQ3.o),(eN.mono HGK.o (aF (aF HB.o Tm.o.fr.size) (HFY.o.trans (lq.o)).size)).di HQ3.o,OwnRows.fr (OwnRows.mono HGC.o (aF (aF HB.o Tm.o.fr.size) (HFY.o.trans (fY.o)).size)) (ae _ _) (fun _ _ h=>h)⟩ (by
    rintro j(hj|hj|hj)
    ·exact aF (HFY.o.trans (az (ae _ _))).size (HGN.o j hj)
    ·exact aF (HFY.o.trans (lq.o)).size (HGK.o.nw hj)
    ·exact aF (HFY.o.trans (fY.o)).size (HGC.o.block _ hj))
   have l_:=O jq;have sO:=iq.o.keep (HFY.o.keep Tm.o.eJ id) id;obtain⟨q0,q1,q2⟩:=aeu qv x.now Z2.o;have c0:u3.cell? ⟨w.heap.size,k*3,none⟩=some (.pointer none):=by simp[World.cell?,sO,q0]
   have c1:u3.cell? ⟨w.heap.size,k*3+1,none⟩=some (.pointer none):=by simp[World.cell?,sO,q1]
   have c2:u3.cell? ⟨w.heap.size,k*3+2,none⟩=some (.slice none 0 0):=by simp[World.cell?,sO,q2]
   have f0:∀j,u3.frozen? ⟨w.heap.size,j,none⟩=false:=fun j=>by simp[World.frozen?,sO]
   have f1:=f0 (k*3);have f2:=f0 (k*3+1);have f3:=f0 (k*3+2);obtain⟨W9,hw9⟩:∃W9,W9=((u3.setCell ⟨w.heap.size,k*3,none⟩ (.pointer (some ⟨kb,0,none⟩))).setCell ⟨w.heap.size,k*3+1,none⟩ (.pointer (some ⟨kk,0,none⟩))).setCell ⟨w.heap.size,k*3+2,none⟩ (.slice na (x.part k).eB.length nc):=⟨_,rfl⟩
   have HS9:=O (show Lu base w x (k+1) (yj qv k ⟨kb,kg,kw,kk,kv,.slice na (x.part k).eB.length nc⟩) W9 by rw[hw9];exact l_.o);have Ez:Fr (one w.heap.size) u3 W9:=by rw[hw9];exact(((ae (one w.heap.size) u3).setCell (p:=⟨w.heap.size,k*3,none⟩) (fun _=>rfl) _).setCell (p:=⟨w.heap.size,k*3+1,none⟩) (fun _=>rfl) _).setCell (p:=⟨w.heap.size,k*3+2,none⟩) (fun _=>rfl) _
   have N4:=Ez.keep (iq.o.keep HBY.o id) (fun e=>by have e':wr.heap.size=w.heap.size:=e;have:=bj Tm.o.eJ;omega);have HB9:=O N4;clear Ez N4;clear jq q0 q1 q2 f0 sO;go_simp;rw[<-hw9];clear hw9;have N4:=HB9.o;refine hK.out _ _ ⟨by simp[World.cell?,N4],by simp[World.cell?,N4],by simp[World.cell?,N4]⟩ ?_;intro AX;clear hK E_ K AX N4
   try simp only[Act.put,sA,sB,sC]
   refine wpAnyH_done af ?_ _;go_wp2_with fail
   go_roundw
   case rel=>exact⟨k+1,_,ab,bg,HS9.o⟩
   case measure=>simp[intOf];omega
  ·have Kd:k=4:=ab;subst Kd;have HD:=O (hcp.done HB.o);have sX:=O hcp.fr;have HNW:=O (show∀j,lJ w.heap.size qv j->w.heap.size<=j from fun j hj=>by
    rcases hj with rfl|⟨i,hi,hj⟩
    ·exact ay _
    ·exact Nat.le_of_lt (hcp.new i hi j hj))
   clear hcp H0;go_wp2;go_ret;exact⟨_,_,rfl,HD.o,sX.o,HNW.o⟩
theorem Sc:(prog.info? 105).map (fun i=>(i.zero,i.size,i.bytes))=some (some (.agg XN),4,40):=af
theorem Oj{w4:World}{l:List (gq×Int)}{c:gq×Int}{gg cap:Nat}(h:w4.ownsRow base 105 4 (.slice (some ⟨gg,0,none⟩) (l.length+1) cap) (l.length+1) ((l.map kY).flatten++kY c)) :
  OwnRows base 105 4 w4 (.slice (some ⟨gg,0,none⟩) (l.length+1) cap) ((l++[c]).map kY):=by
 refine⟨fun x hx=>?_,?_⟩
 ·obtain⟨q,_,rfl⟩:=bZ.1 hx;exact⟨rfl,GD q⟩
 ·rw[bG,ed,aN,ai];simpa using h
theorem Ol(base:Nat)(w:World)(B off:Nat)(cs:aX)(v:cU)(p:eD)(o:jz)(hs:List gY)(h:eP base w v p)(ha:gP w B cs off v)(ou:base<=B)(hf:gB w o hs)(hk:nd p) :
  aB 47 #[.pointer (some ⟨B,off,none⟩),.agg o.cells.toArray] w (eG base w B cs off v (oN p (o.dS hs))):=by
 have uA:B<w.heap.size:=bj ha.eJ;have Gr:¬v.jT B:=h.fg ha.eJ ag;obtain⟨ah,ch,gD⟩:=hf.gT;obtain⟨w2,eA⟩:∃w2,w2=(w.alloc (.cells o.cells.toArray 33)).alloc (.cells bR 46):=⟨_,rfl⟩;have dz:Fr aS w w2:=by rw[eA];exact((ae aS w).alloc _).alloc _
 have k1:w2.heap[w.heap.size]?=some (.cells o.cells.toArray 33 (0,0)):=by rw[eA];exact((ae aS _).alloc _).keep (aC _ _) id
 have k2:w2.heap[w.heap.size+1]?=some (.cells bR 46 (0,0)):=by
  have h:=aC (w.alloc (.cells o.cells.toArray 33)) (.cells bR 46);rw[bN]at h;rw[eA];exact h
 have wT:w2.heap.size=w.heap.size+2:=by rw[eA];simp
 have VU:=O (show∀U,Fr aS w2 U->U.heap[w.heap.size]?=some (.cells o.cells.toArray 33 (0,0))from fun U hU=>hU.keep k1 id);have Cs:=O Gr;have HH:=O h;have HA:=O ha;have HF:=O hf;have lu:=O gD;have HK:=O hk;have fY:=O dz;have mJ:=O k1;have qG:=O k2;have oY:=O (show base<=w.heap.size from ab);have wW:=O ou;have oT:=O uA;have RD:=O eA
 obtain⟨a0,a1,a2,a3,a4,a5,a6,a7,a8,a9,jA,jB,a12,jx,jC,jd,jK,jL,jM,jU,a20,a21⟩:=eh k1 gD;rw[eA]at a0 a1 a2 a3 a4 a5 a6 a7 a8 a9 jA jB a12 jx jC jd jK jL jM jU a20 a21;rw[dZ gD]at eA a0 a1 a2 a3 a4 a5 a6 a7 a8 a9 jA jB a12 jx jC jd jK jL jM jU a20 a21 ⊢;unfold bR at eA a0 a1 a2 a3 a4 a5 a6 a7 a8 a9 jA jB a12 jx jC jd jK jL jM jU a20 a21;have nD:=O eA;clear eA gD dz k1 k2 h ha hf Gr hk
 go_enter func47,ntmps47;have RR:=HK.o.qZ;by_cases ajK:o.cert<0
 ·have HR:=O (show oN p (o.dS hs)=(p,rep 7)by
   unfold oN;rw[aA (show(o.dS hs).cert<0 from ajK)])
  have HP:=O (mf HH.o HA.o fY.o);have rY:=nD.o;subst rY;go_wp2_with (first|((with_reducible refine cV 46 ?_);refine aG rfl 46 (.tmp 4) (.tmp 9) rfl (w.heap.size+1) #[.int .i64 7,.string ⟨#[]⟩,.int .i64 0] rfl rfl _ bR qG.o (bf _ rfl) rfl ct ?_)|fail)
  refine aU (bu bC _ _ (w.heap.size+1) 46 #[.int .i64 7,.string ⟨#[]⟩,.int .i64 0] (0,0) _ rfl (aY _ (w.heap.size+1) _ _ _ _ qG.o) underlying46 rfl (bf _ rfl)) rfl ?_;unfold eG;rw[HR.o];exact⟨rfl,dy HP.o oY.o oT.o (bV _) qG.o eL ag _⟩
 ·have HR:=O (show oN p (o.dS hs)=({p with eB:=xr p.eB o.aJ.o o.cert},rep 1)by
   unfold oN;rw[ar (show¬(o.dS hs).cert<0 from ajK)];rfl)
  have DR:=O (LL base w2 B off cs v p o.aJ.o (HH.o.di fY.o) (HA.o.di fY.o) wW.o);unfold gq.cells at DR;have hx:=nD;have rY:=nD.o;go_wp2_with fail
  rw[<-rY];refine DR.o.mono ?_;rintro e u3⟨rfl,hp3⟩;clear DR a0 a1 a2 a3 a4 a5 a6 a7 a8 a9 jA jB a12 jx jC jd jK jL jM jU a20 a21 hx rY;obtain⟨v3,i3,f3,ab7,ajL⟩:=hp3;have aa3:=ik (HA.o.di fY.o) ajL;have o3:=eI (HH.o.di fY.o) f3 (show w2.heap[w.heap.size]?=_ from mJ.o) jb ab;have r3:=eI (HH.o.di fY.o) f3 (show w2.heap[w.heap.size+1]?=_ from qG.o) dJ ab
  obtain⟨a0,a1,a2,a3,a4,a5,a6,a7,a8,a9,jA,jB,a12,jx,jC,jd,jK,jL,jM,jU,a20,a21⟩:=eh o3 lu.o;obtain⟨fs,kx⟩:∃fs,fs=KX o.aJ.o p.eB:=⟨_,rfl⟩;have zt:fs.length<=8:=by rw[kx];unfold KX;exact aF (bT _ _) RR.2.2.2
  rw[<-kx]at i3;obtain⟨av,cv,hcv⟩:=i3.eB.form;rw[ai]at hcv;have d2:=aa3.lO;have e2:=aa3.free (off+2);rw[hcv]at d2;have cQ:u3.ownsRow base 105 4 (.slice av fs.length cv) fs.length (fs.map kY).flatten:=by
   have h:=i3.eB.2;rw[hcv,ai]at h;exact h
  have hB3:¬own (.slice av fs.length cv) B:=fun hb=>i3.fg aa3.eJ ag (Or.inr (Or.inr (by rw[hcv];exact hb)));have ajM:B<u3.heap.size:=bj aa3.eJ;have awh:base<=u3.heap.size:=by have:=wW.o;omega
  obtain⟨i0,qp,o9,kQ,ld⟩:=info_parts Sc;have wU:=O (GD (o.aJ.o,o.cert));have I3:=O i3;have A3:=O aa3;have F3:=O f3;have FT3:=O ab7;have O3:=O o3;have R3:=O r3;have wY:=O hcv;have UT:=O kx;clear i3 aa3 f3 ab7 o3 r3 ajL hcv kx;go_wp2_with fail
  go_region_law ((with_reducible refine mL ⟨some 29,_,_,_,_,_⟩ ?_)
                 refine step_append_lies _ bC _ _ _ bC base 105 i0 _ 4 40 underlying92 qp o9 kQ ld rfl ab (.slice av fs.length cv) fs.length _ bC (by repeat(first|exact cQ|apply World.ownsRow.alloc|apply World.ownsRow.drew)) ⟨u3.heap.size,0,none⟩ 1 1 (kY (o.aJ.o,o.cert)) bC bC (kF u3 (kY (o.aJ.o,o.cert)) _) wU.o ab ft ab bH (u3.heap.size+1) aR ?_
                 intro gg cap w4 eZ js dP KG
                 have jO:Fr (own (.slice av fs.length cv)) u3 w4:=fl (by repeat(first|exact ae _ _|apply az|apply bz)) js (fun _ hk _=>hk)
                 have k4:w4.cell? ⟨B,off+2,none⟩=some (.slice av fs.length cv):=(jO.cell (p:=⟨B,off+2,none⟩) ajM hB3).trans d2
                 have e4:w4.frozen? ⟨B,off+2,none⟩=false:=(jO.frozen (p:=⟨B,off+2,none⟩) ajM hB3).trans e2)
  all_goals
   have hP:=dm.eB I3.o A3.o wW.o (Oj eZ) (by rw[wY.o];exact jO) (fun k hk=>by
    have e:gg=k:=by simpa[own,Value.ownBlock]using hk
    subst e;rcases dP with dP|dP
    ·exact Or.inl (by rw[wY.o];exact dP)
    ·exact Or.inr ab)
   clear eZ js jO k4 e4 dP KG cQ a0 a1 a2 a3 a4 a5 a6 a7 a8 a9 jA jB a12 jx jC jd jK jL jM jU a20 a21 d2 e2;generalize w4.setCell ⟨B,off+2,none⟩ (.slice (some ⟨gg,0,none⟩) (fs.length+1) cap)=w5 at *
   obtain⟨v5,i5,f5,LM,Wi⟩:=hP;have aa5:=ik A3.o Wi;have r5:=eI I3.o f5 R3.o dJ ab;obtain⟨av5,cv5,aac⟩:=i5.eB.form;have AI:(List.map kY (fs++[(o.aJ.o,o.cert)])).length=fs.length+1:=aR;rw[AI]at aac;have d5:=aa5.lO;have e5:=aa5.free (off+2);rw[aac]at d5;have I5:=O i5;have F5:=O f5;have FT5:=O LM;have AA5:=O aa5;have R5:=O r5;have Wj:=O aac;have Tb:=O AI;clear i5 f5 LM aa5 r5 aac AI Wi
   by_cases h8:8<=fs.length
   ·have h8':(8:Int)<(fs.length:Int)+1:=ab;obtain⟨n,hn⟩:∃n:Nat,fs.length+1=n+8:=⟨fs.length+1-8,ab⟩;obtain⟨g5,rfl⟩:∃g5,av5=some ⟨g5,0,none⟩:=by
     rcases I5.o.eB.2.2 with ⟨hv,hq⟩|⟨g,cap,cur,hv,_⟩
     ·rw[Tb.o]at hq;omega
     ·rw[Wj.o]at hv;injection hv with h1;exact⟨g,h1⟩
    have mg:=I5.o.eB;rw[Wj.o, <-Tb.o]at mg;have qz:=RV base g5 cv5 0 n (List.map kY (fs++[(o.aJ.o,o.cert)])) w5 mg ab (by rw[Tb.o];omega);rw[Tb.o,show 0+(fs.length+1-n)=8 from ab,List.take_zero,List.nil_append, <-List.map_drop]at qz;have Vd:=O qz;have HN:=O hn;have hce:=O (show xr p.eB o.aJ.o o.cert=(fs++[(o.aJ.o,o.cert)]).drop n by
     unfold xr;rw[<-UT.o,aN,show fs.length+[(o.aJ.o,o.cert)].length-8=n from bH])
    have pU:(0:Int)<(fs.length:Int)+1-8:=ab;clear qz mg hn;go_wp2_with fail
    rw[show((fs.length:Int)+1-8)=(n:Int)from by have:=HN.o;omega];refine Vd.o.mono ?_;rintro e w7⟨rfl,YA,og⟩;clear Vd d5 e5;have Lt:Fr (own v5.cv) w5 w7:=og.mono (fun k _ hk=>by rw[Wj.o,show k=g5 from hk];rfl);have hP7:=dm.eB I5.o AA5.o wW.o YA Lt (fun k hk=>Or.inl (by rw[Wj.o];exact hk));have hB5:¬own v5.cv B:=fun hb=>I5.o.fg AA5.o.eJ ag (Or.inr (Or.inr hb));have apC:=Lt.keep AA5.o.eJ hB5
    have a7:gP w7 B _ off v5:=AA5.o.fr Lt hB5;have d7:=a7.lO;have e7:=a7.free (off+2);rw[Wj.o]at d7;have r7:=O (eI I5.o (by obtain⟨_,_,h,_⟩:=hP7;exact h) R5.o dJ ab);have HP:=O (show dm base w2 B cs off v {p with eB:=xr p.eB o.aJ.o o.cert} _ from by
     rw[hce.o];exact gH F3.o FT3.o (gH F5.o FT5.o hP7))
    clear hP7 YA og Lt apC a7;go_wp2_with (first|((with_reducible refine cV 46 ?_);refine aG rfl 46 (.tmp 4) (.tmp 49) rfl (w.heap.size+1) #[.int .i64 1,.string ⟨#[]⟩,.int .i64 0] rfl rfl _ bR r7.o (bf _ rfl) rfl ct ?_)|fail)
    refine aU (bu bC _ _ (w.heap.size+1) 46 #[.int .i64 1,.string ⟨#[]⟩,.int .i64 0] (0,0) _ rfl (aY _ (w.heap.size+1) _ _ _ _ r7.o) underlying46 rfl (bf _ rfl)) rfl ?_;unfold eG;rw[HR.o];exact⟨rfl,dy (HP.o.after fY.o) oY.o oT.o (bV _) r7.o eL ag _⟩
   ·have h8':¬(8:Int)<(fs.length:Int)+1:=ab;have asG:¬(0:Int)<(fs.length:Int)+1-8:=ab;have hce:=O (show xr p.eB o.aJ.o o.cert=fs++[(o.aJ.o,o.cert)]by
     unfold xr;rw[<-UT.o,aN,show fs.length+[(o.aJ.o,o.cert)].length-8=0 from bH,eE])
    have HP:=O (show dm base w2 B cs off v {p with eB:=xr p.eB o.aJ.o o.cert} w5 from by
     rw[hce.o];exact gH F3.o FT3.o ⟨v5,I5.o,F5.o,FT5.o,AA5.o.eJ⟩)
    go_wp2_with (first|((with_reducible refine cV 46 ?_);refine aG rfl 46 (.tmp 4) (.tmp 49) rfl (w.heap.size+1) #[.int .i64 1,.string ⟨#[]⟩,.int .i64 0] rfl rfl _ bR R5.o (bf _ rfl) rfl ct ?_)|fail)
    refine aU (bu bC _ _ (w.heap.size+1) 46 #[.int .i64 1,.string ⟨#[]⟩,.int .i64 0] (0,0) _ rfl (aY _ (w.heap.size+1) _ _ _ _ R5.o) underlying46 rfl (bf _ rfl)) rfl ?_;unfold eG;rw[HR.o];exact⟨rfl,dy (HP.o.after fY.o) oY.o oT.o (bV _) R5.o eL ag _⟩
theorem Wk(base:Nat)(w:World)(B off:Nat)(cs:aX)(v:cU)(p:eD)(o:jz)(hs:List gY)(h:eP base w v p)(ha:gP w B cs off v)(ou:base<=B)(hf:gB w o hs)(hk:nd p) :
  aB 48 #[.pointer (some ⟨B,off,none⟩),.agg o.cells.toArray] w (eG base w B cs off v (rK p (o.dS hs))):=by
 have uA:B<w.heap.size:=bj ha.eJ;have Gr:¬v.jT B:=h.fg ha.eJ ag;obtain⟨ah,ch,gD⟩:=hf.gT;obtain⟨w2,eA⟩:∃w2,w2=(w.alloc (.cells o.cells.toArray 33)).alloc (.cells bR 46):=⟨_,rfl⟩;have dz:Fr aS w w2:=by rw[eA];exact((ae aS w).alloc _).alloc _
 have k1:w2.heap[w.heap.size]?=some (.cells o.cells.toArray 33 (0,0)):=by rw[eA];exact((ae aS _).alloc _).keep (aC _ _) id
 have k2:w2.heap[w.heap.size+1]?=some (.cells bR 46 (0,0)):=by
  have h:=aC (w.alloc (.cells o.cells.toArray 33)) (.cells bR 46);rw[bN]at h;rw[eA];exact h
 have wT:w2.heap.size=w.heap.size+2:=by rw[eA];simp
 have VU:=O (show∀U,Fr aS w2 U->U.heap[w.heap.size]?=some (.cells o.cells.toArray 33 (0,0))from fun U hU=>hU.keep k1 id);have Cs:=O Gr;have HH:=O h;have HA:=O ha;have HF:=O hf;have lu:=O gD;have HK:=O hk;have fY:=O dz;have mJ:=O k1;have qG:=O k2;have oY:=O (show base<=w.heap.size from ab);have wW:=O ou;have oT:=O uA;have RD:=O eA
 obtain⟨a0,a1,a2,a3,a4,a5,a6,a7,a8,a9,jA,jB,a12,jx,jC,jd,jK,jL,jM,jU,a20,a21⟩:=eh k1 gD;rw[eA]at a0 a1 a2 a3 a4 a5 a6 a7 a8 a9 jA jB a12 jx jC jd jK jL jM jU a20 a21;rw[dZ gD]at eA a0 a1 a2 a3 a4 a5 a6 a7 a8 a9 jA jB a12 jx jC jd jK jL jM jU a20 a21 ⊢;unfold bR at eA a0 a1 a2 a3 a4 a5 a6 a7 a8 a9 jA jB a12 jx jC jd jK jL jM jU a20 a21;have nD:=O eA
 obtain⟨w3,Up⟩:∃w3,w3=w2.alloc (.cells #[.bool o.aJ.o.aE,.string o.aJ.o.host,.int .i64 o.aJ.o.port] 24):=⟨_,rfl⟩;have il:Fr aS w2 w3:=by rw[Up];exact(ae aS w2).alloc _
 have k3:w3.heap[w2.heap.size]?=some (.cells #[.bool o.aJ.o.aE,.string o.aJ.o.host,.int .i64 o.aJ.o.port] 24 (0,0)):=by rw[Up];exact aC _ _
 rw[wT]at k3;have iq:=O (fY.o.trans il);have Se:=O k3;have ajO:=O (VU.o w3 il);have aeR:=O (il.keep qG.o id);have ZB:=O Up;have H3:=O (HH.o.di iq.o);have HA3:=O (HA.o.di iq.o);have RR:=HK.o.qZ;have N3:w3.heap.size=w.heap.size+1+1+1:=by rw[Up];simp;omega
 clear Up il k3;clear eA gD dz k1 k2 h ha hf Gr hk;go_enter func48,ntmps48;have hx:=nD;have rY:=nD.o;cases iL:o.all
 case true =>
  rw[iL]at rY;by_cases h9:o.what=9
  ·have HR:=O (show rK p (o.dS hs)=(yi,rep 1)by
    unfold rK;rw[aA];show(o.all&&o.what==9)=true;rw[iL,h9];rfl)
   have HP:=O (dm.fresh H3.o HA3.o wW.o);rw[N3]at HP;rw[h9]at rY;have Iq:gP ((w3.alloc (.cells #[.slice none 0 0,.slice none 0 0] 118)).alloc (.cells #[.slice none 0 0] 121)) B cs off v:=HA3.o.di (((ae aS w3).alloc _).alloc _);have c0:=Iq.cell0;have c1:=Iq.gW;have c2:=Iq.lO;have f0:=Iq.free off;have f1:=Iq.free (off+1);have f2:=Iq.free (off+2)
   have AZ:=O (uz (uz (uz ((((ae aS w3).alloc (.cells #[.slice none 0 0,.slice none 0 0] 118)).alloc (.cells #[.slice none 0 0] 121)).keep aeR.o id) (show w.heap.size+1≠B from ab) off (.pointer (some ⟨w.heap.size+1+1+1,0,none⟩))) (show w.heap.size+1≠B from ab) (off+1) (.pointer (some ⟨w.heap.size+1+1+1+1,0,none⟩))) (show w.heap.size+1≠B from ab) (off+2) (.slice none 0 0));clear Iq
   go_wp2_with (first|((with_reducible refine cV 94 ?_);have Om:=hx;clear hx Om;rw[<-rY];rw[<-ZB.o];generalize (w3.alloc (.cells #[.slice none 0 0,.slice none 0 0] 118)).alloc (.cells #[.slice none 0 0] 121)=W5 at *)|((with_reducible refine cV 46 ?_);refine aG rfl 46 (.tmp 4) (.tmp 24) rfl (w.heap.size+1) #[.int .i64 1,.string ⟨#[]⟩,.int .i64 0] rfl rfl _ bR AZ.o (bf _ rfl) rfl ct ?_))
   refine aU (bu bC _ _ (w.heap.size+1) 46 #[.int .i64 1,.string ⟨#[]⟩,.int .i64 0] (0,0) _ rfl (aY _ (w.heap.size+1) _ _ _ _ AZ.o) underlying46 rfl (bf _ rfl)) rfl ?_;unfold eG;rw[HR.o];exact⟨rfl,dy (HP.o.after iq.o) oY.o oT.o (bV _) AZ.o eL ag _⟩
  ·have t9:(o.what==9)=false:=aL.2 h9;clear h9;have HSW:=O (show∀U,Fr aS w3 U->aB 92 #[.pointer (some ⟨v.b,0,none⟩),.agg #[.bool o.aJ.o.aE,.string o.aJ.o.host,.int .i64 o.aJ.o.port]] U (wI base U v.b v.gv v.wv p.bU p.waits o.aJ.o)from fun U hU=>F2 base U v.b v.gv v.wv p.bU p.waits o.aJ.o ((H3.o.di hU).ot) ab)
   have GB:=O (show∀U,Fr (dv v.b v.gv v.wv) w3 U->(U.cell? ⟨B,off,none⟩=some (.pointer (some ⟨v.b,0,none⟩))/\U.cell? ⟨w.heap.size+2,0,none⟩=some (.bool o.aJ.o.aE)/\U.cell? ⟨w.heap.size+2,1,none⟩=some (.string o.aJ.o.host)/\U.cell? ⟨w.heap.size+2,2,none⟩=some (.int .i64 o.aJ.o.port))from fun U hU=>by
    have j1:=HA3.o.fr hU (fun hb=>Cs.o (Or.inl hb));have j2:=hU.keep Se.o (fun hb=>by
     obtain⟨c,t,e,hk⟩:=H3.o.ot.ij hb;rw[Se.o]at e;cases e;revert hk;decide)
    exact⟨j1.cell0,by simp[World.cell?,j2]⟩)
   go_wp2_with fail
   rw[<-rY, <-ZB.o];clear a0 a1 a2 a3 a4 a5 a6 a7 a8 a9 jA jB a12 jx jC jd jK jL jM jU a20 a21 rY
   go_region_held3 (fun U=>Fr (dv v.b v.gv v.wv) w3 U/\U.cell? ⟨B,off,none⟩=some (.pointer (some ⟨v.b,0,none⟩))/\U.cell? ⟨w.heap.size+2,0,none⟩=some (.bool o.aJ.o.aE)/\U.cell? ⟨w.heap.size+2,1,none⟩=some (.string o.aJ.o.host)/\U.cell? ⟨w.heap.size+2,2,none⟩=some (.int .i64 o.aJ.o.port)) ((refine(fun hU=>⟨hU,GB.o _ hU⟩) ?_;first|exact az (ae _ _)|assumption))
    ((first
     |(go_at_call 92;refine(HSW.o _ (az (ae _ _))).mono ?_;rintro e u4 ⟨rfl,tK⟩;have aeS:Fr (dv v.b v.gv v.wv) w3 u4:=(az (ae _ _)).trans (by obtain⟨_,_,_,h,_⟩:=tK;exact h))))
   obtain⟨v4,i4,f4,LN,Wl⟩:=eR (H3.o.di (az (ae aS w3))) (HA3.o.di (az (ae aS w3))) Cs.o tK;have a4:=ik HA3.o Wl;have o4:=eI (H3.o.di (az (ae aS w3))) f4 (show w3.drew.heap[w.heap.size]?=_ from ajO.o) jb ab;have r4:=eI (H3.o.di (az (ae aS w3))) f4 (show w3.drew.heap[w.heap.size+1]?=_ from aeR.o) dJ ab;have g4:=eI (H3.o.di (az (ae aS w3))) f4 (show w3.drew.heap[w.heap.size+2]?=_ from Se.o) pI ab
   have I4:=O i4;have F4:=O f4;have FT4:=O LN;have AA4:=O a4;have O4:=O o4;have R4:=O r4;have G4:=O g4;obtain⟨a0,a1,a2,a3,a4,a5,a6,a7,a8,a9,jA,jB,a12,jx,jC,jd,jK,jL,jM,jU,a20,a21⟩:=eh o4 lu.o;clear tK aeS i4 f4 LN a4 o4 r4 g4 Wl GB HSW;have HR:=O (show rK p (o.dS hs)=(vT p o.aJ.o,rep 1)by
    unfold rK;rw[ar,ar]
    ·rfl
    ·show¬(o.what==9)=true;rw[t9];exact gI
    ·show¬(o.all&&o.what==9)=true;rw[t9,Bool.and_false];exact gI)
   have HP:=O (show dm base w3 B cs off v (vT p o.aJ.o) u4 from dh (az (ae aS w3)) ⟨v4,I4.o,F4.o,FT4.o,AA4.o.eJ⟩);go_wp2_with (first|((with_reducible refine cV 46 ?_);refine aG rfl 46 (.tmp 4) (.tmp 43) rfl (w.heap.size+1) #[.int .i64 1,.string ⟨#[]⟩,.int .i64 0] rfl rfl _ bR R4.o (bf _ rfl) rfl ct ?_)|fail)
   refine aU (bu bC _ _ (w.heap.size+1) 46 #[.int .i64 1,.string ⟨#[]⟩,.int .i64 0] (0,0) _ rfl (aY u4 (w.heap.size+1) _ _ _ _ R4.o) underlying46 rfl (bf _ rfl)) rfl ?_;unfold eG;rw[HR.o];exact⟨rfl,dy (HP.o.after iq.o) oY.o oT.o (bV _) R4.o eL ag _⟩
 case false =>
  rw[iL]at rY;have HSW:=O (show∀U,Fr aS w3 U->aB 92 #[.pointer (some ⟨v.b,0,none⟩),.agg #[.bool o.aJ.o.aE,.string o.aJ.o.host,.int .i64 o.aJ.o.port]] U (wI base U v.b v.gv v.wv p.bU p.waits o.aJ.o)from fun U hU=>F2 base U v.b v.gv v.wv p.bU p.waits o.aJ.o ((H3.o.di hU).ot) ab)
  have GB:=O (show∀U,Fr (dv v.b v.gv v.wv) w3 U->(U.cell? ⟨B,off,none⟩=some (.pointer (some ⟨v.b,0,none⟩))/\U.cell? ⟨w.heap.size+2,0,none⟩=some (.bool o.aJ.o.aE)/\U.cell? ⟨w.heap.size+2,1,none⟩=some (.string o.aJ.o.host)/\U.cell? ⟨w.heap.size+2,2,none⟩=some (.int .i64 o.aJ.o.port))from fun U hU=>by
   have j1:=HA3.o.fr hU (fun hb=>Cs.o (Or.inl hb));have j2:=hU.keep Se.o (fun hb=>by
    obtain⟨c,t,e,hk⟩:=H3.o.ot.ij hb;rw[Se.o]at e;cases e;revert hk;decide)
   exact⟨j1.cell0,by simp[World.cell?,j2]⟩)
  go_wp2_with fail
  rw[<-rY, <-ZB.o];clear a0 a1 a2 a3 a4 a5 a6 a7 a8 a9 jA jB a12 jx jC jd jK jL jM jU a20 a21 rY
  go_region_held3 (fun U=>Fr (dv v.b v.gv v.wv) w3 U/\U.cell? ⟨B,off,none⟩=some (.pointer (some ⟨v.b,0,none⟩))/\U.cell? ⟨w.heap.size+2,0,none⟩=some (.bool o.aJ.o.aE)/\U.cell? ⟨w.heap.size+2,1,none⟩=some (.string o.aJ.o.host)/\U.cell? ⟨w.heap.size+2,2,none⟩=some (.int .i64 o.aJ.o.port)) ((refine(fun hU=>⟨hU,GB.o _ hU⟩) ?_;first|exact az (ae _ _)|assumption))
   ((first
    |(go_at_call 92;refine(HSW.o _ (az (ae _ _))).mono ?_;rintro e u4 ⟨rfl,tK⟩;have aeS:Fr (dv v.b v.gv v.wv) w3 u4:=(az (ae _ _)).trans (by obtain⟨_,_,_,h,_⟩:=tK;exact h))))
  obtain⟨v4,i4,f4,LN,Wl⟩:=eR (H3.o.di (az (ae aS w3))) (HA3.o.di (az (ae aS w3))) Cs.o tK;have a4:=ik HA3.o Wl;have o4:=eI (H3.o.di (az (ae aS w3))) f4 (show w3.drew.heap[w.heap.size]?=_ from ajO.o) jb ab;have r4:=eI (H3.o.di (az (ae aS w3))) f4 (show w3.drew.heap[w.heap.size+1]?=_ from aeR.o) dJ ab;have g4:=eI (H3.o.di (az (ae aS w3))) f4 (show w3.drew.heap[w.heap.size+2]?=_ from Se.o) pI ab
  have I4:=O i4;have F4:=O f4;have FT4:=O LN;have AA4:=O a4;have O4:=O o4;have R4:=O r4;have G4:=O g4;obtain⟨a0,a1,a2,a3,a4,a5,a6,a7,a8,a9,jA,jB,a12,jx,jC,jd,jK,jL,jM,jU,a20,a21⟩:=eh o4 lu.o;clear tK aeS i4 f4 LN a4 o4 r4 g4 Wl GB HSW;by_cases h9:o.what=9
  ·have t9:(o.what==9)=true:=by rw[h9];rfl
   clear h9;have HR:=O (show rK p (o.dS hs)=(NF p o.aJ.o,rep 1)by
    unfold rK;rw[ar,aA]
    ·rfl
    ·show(o.what==9)=true;exact t9
    ·show¬(o.all&&o.what==9)=true;rw[iL,kn];exact gI)
   have uC:=O (show∀U,Fr aS u4 U->aB 93 #[.pointer (some ⟨v4.k,0,none⟩),.agg #[.bool o.aJ.o.aE,.string o.aJ.o.host,.int .i64 o.aJ.o.port]] U (tQ base U v4.k v4.kv p.book (ef.vS o.aJ.o))from fun U hU=>NK base U v4.k v4.kv p.book o.aJ.o ((I4.o.di hU).book) ab)
   have GB:=O (show∀U,Fr (iu v4.k v4.kv) u4 U->(U.cell? ⟨B,off+1,none⟩=some (.pointer (some ⟨v4.k,0,none⟩))/\U.cell? ⟨w.heap.size+2,0,none⟩=some (.bool o.aJ.o.aE)/\U.cell? ⟨w.heap.size+2,1,none⟩=some (.string o.aJ.o.host)/\U.cell? ⟨w.heap.size+2,2,none⟩=some (.int .i64 o.aJ.o.port))from fun U hU=>by
    have j1:=AA4.o.fr hU (fun hb=>I4.o.fg AA4.o.eJ ag (Or.inr (Or.inl hb)));have j2:=hU.keep G4.o (fun hb=>I4.o.fg G4.o pI (Or.inr (Or.inl hb)));exact⟨j1.gW,by simp[World.cell?,j2]⟩)
   go_wp2_with fail
   clear a0 a1 a2 a3 a4 a5 a6 a7 a8 a9 jA jB a12 jx jC jd jK jL jM jU a20 a21
   go_region_held3 (fun U=>Fr (iu v4.k v4.kv) u4 U/\U.cell? ⟨B,off+1,none⟩=some (.pointer (some ⟨v4.k,0,none⟩))/\U.cell? ⟨w.heap.size+2,0,none⟩=some (.bool o.aJ.o.aE)/\U.cell? ⟨w.heap.size+2,1,none⟩=some (.string o.aJ.o.host)/\U.cell? ⟨w.heap.size+2,2,none⟩=some (.int .i64 o.aJ.o.port)) ((refine(fun hU=>⟨hU,GB.o _ hU⟩) ?_;first|exact az (ae _ _)|assumption))
    ((first
     |(go_at_call 93;refine(uC.o _ (az (ae _ _))).mono ?_;rintro e u5 ⟨rfl,EU⟩;have apD:Fr (iu v4.k v4.kv) u4 u5:=(az (ae _ _)).trans (by obtain⟨_,_,h,_⟩:=EU;exact h))))
   obtain⟨v5,i5,f5,LM,Wi⟩:=oO (I4.o.di (az (ae aS u4))) (AA4.o.di (az (ae aS u4))) (I4.o.fg AA4.o.eJ ag) EU;have a5:=ik AA4.o Wi;have r5:=eI (I4.o.di (az (ae aS u4))) f5 (show u4.drew.heap[w.heap.size+1]?=_ from R4.o) dJ ab;have g5:=eI (I4.o.di (az (ae aS u4))) f5 (show u4.drew.heap[w.heap.size+2]?=_ from G4.o) pI ab;have DR:=O (LL base u5 B off _ v5 _ o.aJ.o i5 a5 wW.o)
   have l0:u5.cell? ⟨w.heap.size+2,0,none⟩=some (.bool o.aJ.o.aE):=by simp[World.cell?,g5]
   have l1:u5.cell? ⟨w.heap.size+2,1,none⟩=some (.string o.aJ.o.host):=by simp[World.cell?,g5]
   have l2:u5.cell? ⟨w.heap.size+2,2,none⟩=some (.int .i64 o.aJ.o.port):=by simp[World.cell?,g5]
   have I5:=O i5;have F5:=O f5;have FT5:=O LM;have R5:=O r5;unfold gq.cells at DR;clear EU apD i5 f5 LM a5 r5 g5 Wi GB uC;go_wp2_with fail
   refine DR.o.mono ?_;rintro e u6⟨rfl,hp6⟩;have Ja:=O (show u6.heap[w.heap.size+1]?=_ from eI I5.o (by obtain⟨_,_,h,_⟩:=hp6;exact h) R5.o dJ ab);have HP:=O (show dm base w3 B cs off v (NF p o.aJ.o) u6 from dh (az (ae aS w3)) (gH F4.o FT4.o (dh (az (ae aS u4)) (gH F5.o FT5.o hp6))));clear DR hp6 l0 l1 l2
   go_wp2_with (first|((with_reducible refine cV 46 ?_);refine aG rfl 46 (.tmp 4) (.tmp 43) rfl (w.heap.size+1) #[.int .i64 1,.string ⟨#[]⟩,.int .i64 0] rfl rfl _ bR Ja.o (bf _ rfl) rfl ct ?_)|fail)
   refine aU (bu bC _ _ (w.heap.size+1) 46 #[.int .i64 1,.string ⟨#[]⟩,.int .i64 0] (0,0) _ rfl (aY u6 (w.heap.size+1) _ _ _ _ Ja.o) underlying46 rfl (bf _ rfl)) rfl ?_;unfold eG;rw[HR.o];exact⟨rfl,dy (HP.o.after iq.o) oY.o oT.o (bV _) Ja.o eL ag _⟩
  ·have t9:(o.what==9)=false:=aL.2 h9;clear h9;have HR:=O (show rK p (o.dS hs)=(vT p o.aJ.o,rep 1)by
    unfold rK;rw[ar,ar]
    ·rfl
    ·show¬(o.what==9)=true;rw[t9];exact gI
    ·show¬(o.all&&o.what==9)=true;rw[t9,Bool.and_false];exact gI)
   have HP:=O (show dm base w3 B cs off v (vT p o.aJ.o) u4 from dh (az (ae aS w3)) ⟨v4,I4.o,F4.o,FT4.o,AA4.o.eJ⟩);go_wp2_with (first|((with_reducible refine cV 46 ?_);refine aG rfl 46 (.tmp 4) (.tmp 43) rfl (w.heap.size+1) #[.int .i64 1,.string ⟨#[]⟩,.int .i64 0] rfl rfl _ bR R4.o (bf _ rfl) rfl ct ?_)|fail)
   refine aU (bu bC _ _ (w.heap.size+1) 46 #[.int .i64 1,.string ⟨#[]⟩,.int .i64 0] (0,0) _ rfl (aY u4 (w.heap.size+1) _ _ _ _ R4.o) underlying46 rfl (bf _ rfl)) rfl ?_;unfold eG;rw[HR.o];exact⟨rfl,dy (HP.o.after iq.o) oY.o oT.o (bV _) R4.o eL ag _⟩
theorem Sf(o:kl):(eO o).1=0\/(eO o).1=1\/(eO o).1=4\/(eO o).1=7\/(eO o).1=8\/(eO o).1=10:=by
 unfold eO;split
 ·split
  ·simp
  ·split
   ·simp
   ·split
    ·simp
    ·split
     ·simp
     ·split
      ·simp
      ·split<;>simp
 ·simp
theorem lI.take{f:dN}(h:lI x)(g:lI f)(part:Int)(c:Nat):lI (mE x f part c):=by
 unfold mE;split
 ·refine⟨⟨fun k=>?_,?_⟩,fun k=>?_,fun k=>?_⟩
  ·show nd (if k=part.toNat then uE c (x.part k) (f.part k)else x.part k);have a:=h.ok.part k;have b:=g.ok.part k;split
   ·unfold uE;cases c.testBit 0<;>cases c.testBit 1<;>cases c.testBit 2<;>exact⟨by first|exact a.uniq|exact b.uniq,by first|exact a.nat|exact b.nat,by first|exact a.qZ.1|exact b.qZ.1,by first|exact a.qZ.2.1|exact b.qZ.2.1,by first|exact a.qZ.2.2.1|exact b.qZ.2.2.1,by first|exact a.qZ.2.2.2|exact b.qZ.2.2.2⟩
   ·exact a
  ·show 0<=(if c.testBit 3=true then f.now else x.now)/\(if c.testBit 3=true then f.now else x.now)<=1099511627776;split
   ·exact g.ok.now
   ·exact h.ok.now
  ·show rL (if k=part.toNat then uE c (x.part k) (f.part k)else x.part k);have a:=h.sm k;have b:=g.sm k;split
   ·unfold uE;cases c.testBit 0<;>exact⟨by first|exact a.bU|exact b.bU,by first|exact a.waits|exact b.waits⟩
   ·exact a
  ·show mC (if k=part.toNat then uE c (x.part k) (f.part k)else x.part k);have a:=h.path k;have b:=g.path k;split
   ·unfold uE;cases c.testBit 0
    ·exact fun y hy=>a y hy
    ·exact fun y hy=>b y hy
   ·exact a
 ·exact h
def Ox(n i:Nat):cU:=⟨n+1+2*i,.slice none 0 0,.slice none 0 0,n+2+2*i,.slice none 0 0,.slice none 0 0⟩
def aap(n k i:Nat):aX:=if i<k then(Ox n i).cells else [.pointer none,.pointer none,.slice none 0 0]
def Sq(n k:Nat):aX:=aap n k 0++(aap n k 1++(aap n k 2++(aap n k 3++[.int .i64 0])))
structure Ef (w:World) (k:Nat) (W:World):Prop where
 fr:Fr aS w W
 eJ:W.heap[w.heap.size]?=some (.cells (Sq w.heap.size k).toArray 97 (0,0))
 ot:∀i,i<k->W.heap[w.heap.size+1+2*i]?=some (.cells #[.slice none 0 0,.slice none 0 0] 118 (0,0))
 book:∀i,i<k->W.heap[w.heap.size+2+2*i]?=some (.cells #[.slice none 0 0] 121 (0,0))
 size:W.heap.size=w.heap.size+1+2*k
theorem Sr(n k:Nat)(hk:k<4):(((Sq n k).set (k*3) (.pointer (some ⟨n+1+2*k,0,none⟩))).set (k*3+1) (.pointer (some ⟨n+2+2*k,0,none⟩))).set (k*3+2) (.slice none 0 0)=Sq n (k+1):=by
 match k,hk with
 |0,_=>rfl
 |1,_=>rfl
 |2,_=>rfl
 |3,_=>rfl
theorem Ef.step(h:Ef w k W)(hk:k<4):Ef w (k+1) (((((W.alloc (.cells #[.slice none 0 0,.slice none 0 0] 118)).alloc (.cells #[.slice none 0 0] 121)).setCell ⟨w.heap.size,k*3,none⟩ (.pointer (some ⟨W.heap.size,0,none⟩))).setCell ⟨w.heap.size,k*3+1,none⟩ (.pointer (some ⟨W.heap.size+1,0,none⟩))).setCell ⟨w.heap.size,k*3+2,none⟩ (.slice none 0 0)):=by
 obtain⟨V,hV⟩:∃V,V=(W.alloc (.cells #[.slice none 0 0,.slice none 0 0] 118)).alloc (.cells #[.slice none 0 0] 121):=⟨_,rfl⟩;have hf:Fr aS W V:=by rw[hV];exact((ae aS W).alloc _).alloc _
 have xm:V.heap[W.heap.size]?=some (.cells #[.slice none 0 0,.slice none 0 0] 118 (0,0)):=by rw[hV];exact((ae aS _).alloc _).keep (aC _ _) id
 have Nh:V.heap[W.heap.size+1]?=some (.cells #[.slice none 0 0] 121 (0,0)):=by
  have h:=aC (W.alloc (.cells #[.slice none 0 0,.slice none 0 0] 118)) (.cells #[.slice none 0 0] 121);rw[bN]at h;rw[hV];exact h
 have hvs:V.heap.size=W.heap.size+2:=by rw[hV];simp
 rw[<-hV];have pR:=hf.keep h.eJ id;have Ez:Fr (one w.heap.size) V (((V.setCell ⟨w.heap.size,k*3,none⟩ (.pointer (some ⟨W.heap.size,0,none⟩))).setCell ⟨w.heap.size,k*3+1,none⟩ (.pointer (some ⟨W.heap.size+1,0,none⟩))).setCell ⟨w.heap.size,k*3+2,none⟩ (.slice none 0 0)) :=
  (((ae (one w.heap.size) V).setCell (p:=⟨w.heap.size,k*3,none⟩) (fun _=>rfl) _).setCell (p:=⟨w.heap.size,k*3+1,none⟩) (fun _=>rfl) _).setCell (p:=⟨w.heap.size,k*3+2,none⟩) (fun _=>rfl) _
 have e1:=b_ pR (k*3) (.pointer (some ⟨W.heap.size,0,none⟩));have e2:=b_ e1 (k*3+1) (.pointer (some ⟨W.heap.size+1,0,none⟩));have e3:=b_ e2 (k*3+2) (.slice none 0 0);have yx:=h.size;have PH:=Sr w.heap.size k hk;rw[show w.heap.size+1+2*k=W.heap.size from ab,show w.heap.size+2+2*k=W.heap.size+1 from ab]at PH;refine⟨?_,?_,fun i hi=>?_,fun i hi=>?_,?_⟩
 ·exact(((h.fr.trans hf).gF (p:=⟨w.heap.size,k*3,none⟩) (ay _) _).gF (p:=⟨w.heap.size,k*3+1,none⟩) (ay _) _).gF (p:=⟨w.heap.size,k*3+2,none⟩) (ay _) _
 ·rw[e3, <-PH];simp
 ·refine Ez.keep ?_ (fun e=>by have e':w.heap.size+1+2*i=w.heap.size:=e;omega);by_cases Mm:i<k
  ·exact hf.keep (h.ot i Mm) id
  ·rw[show w.heap.size+1+2*i=W.heap.size from ab];exact xm
 ·refine Ez.keep ?_ (fun e=>by have e':w.heap.size+2+2*i=w.heap.size:=e;omega);by_cases Mm:i<k
  ·exact hf.keep (h.book i Mm) id
  ·rw[show w.heap.size+2+2*i=W.heap.size+1 from ab];exact Nh
 ·have e:(((V.setCell ⟨w.heap.size,k*3,none⟩ (.pointer (some ⟨W.heap.size,0,none⟩))).setCell ⟨w.heap.size,k*3+1,none⟩ (.pointer (some ⟨W.heap.size+1,0,none⟩))).setCell ⟨w.heap.size,k*3+2,none⟩ (.slice none 0 0)).heap.size=V.heap.size:=by simp[World.setCell]
  rw[e];omega
theorem Ef.done(h:Ef w 4 W)(hb:base<=w.heap.size):cE base W w.heap.size (Ox w.heap.size) AQ:=by
 refine⟨hb,h.eJ,fun i hi=>⟨⟨?_,h.ot i hi,⟨[],dx _ _ _ _,.nil⟩,⟨[],dx _ _ _ _,.nil⟩⟩,⟨?_,h.book i hi,dx _ _ _ _⟩,dx _ _ _ _⟩,fun i j hi hj Qz k hk YY=>?_⟩
 ·show base<=w.heap.size+1+2*i;omega
 ·show base<=w.heap.size+2+2*i;omega
 ·have key:∀a,(Ox w.heap.size a).jT k->k=w.heap.size+1+2*a\/k=w.heap.size+2+2*a:=by
   rintro a(q|q|q)
   ·rcases q with q|q|q
    ·exact Or.inl q
    ·simp[Ox,own,Value.ownBlock]at q
    ·simp[Ox,own,Value.ownBlock]at q
   ·rcases q with q|q
    ·exact Or.inr q
    ·simp[Ox,own,Value.ownBlock]at q
   ·simp[Ox,own,Value.ownBlock]at q
  have h1:=key i hk;have h2:=key j YY;omega
def ajY(w:World)(t:Value)(wr:World):Prop:=∃k:Nat,k<=4/\t=.int .i64 k/\Ef w k wr
theorem Qd(w:World):aB 32 #[] w fun e w'=>∃B pv,e=.returned (.pointer (some ⟨B,0,none⟩))/\(∀base,base<=w.heap.size->cE base w' B pv AQ)/\Fr aS w w':=by
 have h0:Ef w 0 (w.alloc (.cells #[.pointer none,.pointer none,.slice none 0 0,.pointer none,.pointer none,.slice none 0 0,.pointer none,.pointer none,.slice none 0 0,.pointer none,.pointer none,.slice none 0 0,.int .i64 0] 97)) :=
  ⟨(ae aS w).alloc _,aC _ _,fun i hi=>absurd hi (cq i),fun i hi=>absurd hi (cq i),aR⟩
 have H0:=O h0;clear h0;go_enter func32,ntmps32;go_wp2_with fail
 go_loopw[5] (ajY w) (fun i _=>4-(intOf i).toNat)
 case atStart=>exact⟨0,aQ _,rfl,H0.o⟩
 case round =>
  obtain⟨k,hk,rfl,hn⟩:=hrel;by_cases fk:k<4
  ·have o_:(k:Int)<4:=ab;have HN:=O (hn.step fk);have hb:=hn.eJ;have BQ:w.heap.size<wr.heap.size:=bj hb;have NP:¬(k:Int)<0:=ab;have aoO:(0:Int)<=(k:Int):=ab;have LU:=(((ae aS wr).alloc (.cells #[.slice none 0 0,.slice none 0 0] 118)).alloc (.cells #[.slice none 0 0] 121)).keep hb id
   obtain⟨q0,q1,q2⟩:(Sq w.heap.size k)[k*3]?=some (.pointer none)/\(Sq w.heap.size k)[k*3+1]?=some (.pointer none)/\(Sq w.heap.size k)[k*3+2]?=some (.slice none 0 0):=by
    match k,fk with
    |0,_=>exact⟨rfl,rfl,rfl⟩
    |1,_=>exact⟨rfl,rfl,rfl⟩
    |2,_=>exact⟨rfl,rfl,rfl⟩
    |3,_=>exact⟨rfl,rfl,rfl⟩
   have c0:((wr.alloc (.cells #[.slice none 0 0,.slice none 0 0] 118)).alloc (.cells #[.slice none 0 0] 121)).cell? ⟨w.heap.size,k*3,none⟩=some (.pointer none):=by simp[World.cell?,LU,q0]
   have c1:((wr.alloc (.cells #[.slice none 0 0,.slice none 0 0] 118)).alloc (.cells #[.slice none 0 0] 121)).cell? ⟨w.heap.size,k*3+1,none⟩=some (.pointer none):=by simp[World.cell?,LU,q1]
   have c2:((wr.alloc (.cells #[.slice none 0 0,.slice none 0 0] 118)).alloc (.cells #[.slice none 0 0] 121)).cell? ⟨w.heap.size,k*3+2,none⟩=some (.slice none 0 0):=by simp[World.cell?,LU,q2]
   have f0:∀j,((wr.alloc (.cells #[.slice none 0 0,.slice none 0 0] 118)).alloc (.cells #[.slice none 0 0] 121)).frozen? ⟨w.heap.size,j,none⟩=false:=fun j=>by simp[World.frozen?,LU]
   have f1:=f0 (k*3);have f2:=f0 (k*3+1);have f3:=f0 (k*3+2);have hx:=HN;clear hn H0 LU q0 q1 q2 f0 hb;go_wp2_with (first|((with_reducible refine cV 94 ?_);have Om:=hx;clear hx Om;generalize (wr.alloc (.cells #[.slice none 0 0,.slice none 0 0] 118)).alloc (.cells #[.slice none 0 0] 121)=W5 at *)|fail)
   go_roundw
   case rel=>exact⟨k+1,ab,bg,HN.o⟩
   case measure=>simp[intOf];omega
  ·have Kd:k=4:=ab;subst Kd;have HD:=O (fun base hb=>hn.done (base:=base) hb);have sX:=O hn.fr;clear hn H0;go_wp2;go_ret;exact⟨_,_,rfl,HD.o,sX.o⟩
theorem mH(t:im)(n:Nat)(x:w_):(t.put n x).tab n=x:=by unfold im.put;simp
structure tz where
 kind:Int
 tab:Int
 o:jz
 hs:List gY
def tz.cells(m:tz):aX:=.int .i64 m.kind :: .int .i64 m.tab :: m.o.cells
