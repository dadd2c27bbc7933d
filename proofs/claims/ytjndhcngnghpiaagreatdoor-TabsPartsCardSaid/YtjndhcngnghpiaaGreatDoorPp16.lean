/- Lemmas for the law's walk. -/
import Derived.Test.YtjndhcngnghpiaaGreatDoorPp15
import Derived.Great.BuildSlice
import Derived.Deep.Onto
set_option maxRecDepth 100000
set_option maxHeartbeats 16000000
set_option linter.unusedSimpArgs false
namespace Go.Proofs.YtjndhcngnghpiaaGreatDoor
open Go.Proofs.Tryz
open Go.RowKit
variable {n k b b' base m:Nat} {w W:World} {v:Value} {xs:cX} {hs:List gT} {x:ed}
theorem tH(w:World)(o:jI)(hs:List gT)(hf:gM w o hs) :
  aE 19 #[.agg o.cells.toArray] w fun e w'=>e=.returned (.tuple #[.int .i64 ((dV (o.dX hs)).1:Nat),.bool (dV (o.dX hs)).2])/\Fr aX w w':=by
 obtain⟨ah,ch,gu⟩:=hf.h_;obtain⟨w2,eC⟩:∃w2,w2=w.alloc (.cells o.cells.toArray 33):=⟨_,rfl⟩;have dF:Fr aX w w2:=by rw[eC];exact(ae aX w).alloc _
 have k1:w2.heap[w.heap.size]?=some (.cells o.cells.toArray 33 (0,0)):=by rw[eC];exact aC _ _
 have sN:=O (kV o hs w2 (hf.dx dF));obtain⟨a0,a1,a2,a3,a4,a5,a6,a7,a8,a9,jy,jz,a12,jw,jA,jb,jJ,jK,jL,jT,a20,a21⟩:=eo k1 gu;have mD:=O k1;have lf:=O gu;have fR:=O dF;rw[eC]at a0 a1 a2 a3 a4 a5 a6 a7 a8 a9 jy jz a12 jw jA jb jJ jK jL jT a20 a21;rw[dN gu]at eC sN a0 a1 a2 a3 a4 a5 a6 a7 a8 a9 jy jz a12 jw jA jb jJ jK jL jT a20 a21 ⊢;have ow:=O eC;clear eC gu dF k1 hf;go_enter func19,ntmps19
 have uW:=O (aC w (.cells #[.int .i64 o.what,.int .i64 o.aF.part,.bool o.aF.cG.aD,.string o.aF.cG.host,.int .i64 o.aF.cG.port,.bool o.aF.o.aD,.string o.aF.o.host,.int .i64 o.aF.o.port,.string o.aF.path,.string o.aF.query,.string o.aF.method,.slice ah hs.length ch,.bool o.aF.fq,.string o.aF.body,.bool o.proxy,.string o.text,.string o.user,.string o.pass,.string o.bz,.int .i64 o.cert,.bool o.all,.int .i64 o.n] 33))
 go_wp2_with (first|((with_reducible refine dt 4 ?_);refine aJ rfl 33 (.tmp 1) rfl w.heap.size rfl _ #[.int .i64 o.what,.int .i64 o.aF.part,.bool o.aF.cG.aD,.string o.aF.cG.host,.int .i64 o.aF.cG.port,.bool o.aF.o.aD,.string o.aF.o.host,.int .i64 o.aF.o.port,.string o.aF.path,.string o.aF.query,.string o.aF.method,.slice ah hs.length ch,.bool o.aF.fq,.string o.aF.body,.bool o.proxy,.string o.text,.string o.user,.string o.pass,.string o.bz,.int .i64 o.cert,.bool o.all,.int .i64 o.n] (0,0) _ uW.o underlying33 rfl af ?_)|fail)
 rw[<-ow.o];refine sN.o.mono ?_;rintro e u⟨rfl,hu⟩;clear a0 a1 a2 a3 a4 a5 a6 a7 a8 a9 jy jz a12 jw jA jb jJ jK jL jT a20 a21 sN;obtain⟨a0,a1,a2,a3,a4,a5,a6,a7,a8,a9,jy,jz,a12,jw,jA,jb,jJ,jK,jL,jT,a20,a21⟩:=eo (hu.keep mD.o id) lf.o;have HU:=O (fR.o.trans hu);clear hu;cases hr:(o.dX hs).right
 ·have HC:=O (show dV (o.dX hs)=(0,false)by unfold dV;rw[hr];rfl);clear hr;go_wp2;go_ret2;rw[HC.o];exact⟨rfl,HU.o⟩
 ·have hr':=hr;unfold jx.right at hr';simp only[cF,dM]at hr';have oM:1<=o.what:=hr'.1;have anD:o.what<=10:=hr'.2.1;clear hr';have HC:=O (show dV (o.dX hs)=if o.what=1\/o.what=2\/o.what=3\/o.what=8 then(1,true)else if o.what=4 then(10,false)else if o.what=5 then(10,true)else if o.what=6 then(4,false)else if o.what=7 then(4,true)else if o.what=10 then(8,true)else(7,true)by unfold dV;rw[hr];rfl)
  clear hr;have hq:o.what=1\/o.what=2\/o.what=3\/o.what=4\/o.what=5\/o.what=6\/o.what=7\/o.what=8\/o.what=9\/o.what=10:=ab;clear oM anD;rcases hq with hq|hq|hq|hq|hq|hq|hq|hq|hq|hq
  ·as_aux_lemma =>
    rw[hq]at a0 HC;have xb:=O (HC.o.trans (by first|rfl|decide));clear HC;have HQ:=O hq;clear hq;go_wp2;go_ret2;rw[xb.o];exact⟨rfl,HU.o⟩
  ·as_aux_lemma =>
    rw[hq]at a0 HC;have xb:=O (HC.o.trans (by first|rfl|decide));clear HC;have HQ:=O hq;clear hq;go_wp2;go_ret2;rw[xb.o];exact⟨rfl,HU.o⟩
  ·as_aux_lemma =>
    rw[hq]at a0 HC;have xb:=O (HC.o.trans (by first|rfl|decide));clear HC;have HQ:=O hq;clear hq;go_wp2;go_ret2;rw[xb.o];exact⟨rfl,HU.o⟩
  ·as_aux_lemma =>
    rw[hq]at a0 HC;have xb:=O (HC.o.trans (by first|rfl|decide));clear HC;have HQ:=O hq;clear hq;go_wp2;go_ret2;rw[xb.o];exact⟨rfl,HU.o⟩
  ·as_aux_lemma =>
    rw[hq]at a0 HC;have xb:=O (HC.o.trans (by first|rfl|decide));clear HC;have HQ:=O hq;clear hq;go_wp2;go_ret2;rw[xb.o];exact⟨rfl,HU.o⟩
  ·as_aux_lemma =>
    rw[hq]at a0 HC;have xb:=O (HC.o.trans (by first|rfl|decide));clear HC;have HQ:=O hq;clear hq;go_wp2;go_ret2;rw[xb.o];exact⟨rfl,HU.o⟩
  ·as_aux_lemma =>
    rw[hq]at a0 HC;have xb:=O (HC.o.trans (by first|rfl|decide));clear HC;have HQ:=O hq;clear hq;go_wp2;go_ret2;rw[xb.o];exact⟨rfl,HU.o⟩
  ·as_aux_lemma =>
    rw[hq]at a0 HC;have xb:=O (HC.o.trans (by first|rfl|decide));clear HC;have HQ:=O hq;clear hq;go_wp2;go_ret2;rw[xb.o];exact⟨rfl,HU.o⟩
  ·as_aux_lemma =>
    rw[hq]at a0 HC;have xb:=O (HC.o.trans (by first|rfl|decide));clear HC;have HQ:=O hq;clear hq;go_wp2;go_ret2;rw[xb.o];exact⟨rfl,HU.o⟩
  ·as_aux_lemma =>
    rw[hq]at a0 HC;have xb:=O (HC.o.trans (by first|rfl|decide));clear HC;have HQ:=O hq;clear hq;go_wp2;go_ret2;rw[xb.o];exact⟨rfl,HU.o⟩
theorem Ec{P:Program}{ops:Array Oper}{rest:List Oper}{o:Oper}{a:Act}{w:World}{Q:Exit->Act->World->Prop}(hg:o.guard=none)(t e:TypeId)(len:Nat)(parts:Array (Nat×Operand))(ho:o.op=.buildSlice t len parts)(dst:Option Tmp)(M7:o.dst=dst)
  (cells:bW)(ie:TypeInfo)(z:Value)(vs:List (Nat×Value))(he:(parts.map fun(i,x)=>(i,a.eval x)).toList=vs)
  (hu:P.underlying t=some (.slice e))(U1:P.info? e=some ie)(hz:ie.zero=some z)(FW:¬len*ie.size>2^24)(pJ:¬len*ie.size=0)
  (hf:Instr.fill (fun i=>some (i*ie.size,ie.size)) ((Array.range (len*ie.size)).map (z.cells[· %z.cells.size]!)) vs=some cells)(N:Nat)(hN:w.heap.size=N)
  (h:wpList P ops Q rest (a.put dst (.slice (some ⟨N,0,none⟩) len len)) (w.alloc (.cells cells e))):wpList P ops Q (o :: rest) a w:=by
 subst M7 hN;exact wpList_buildSlice hg t e len parts ho cells ie z hu U1 hz FW pJ (by rw[he];exact hf) h
theorem Vq(o:jI){ah:fi}{ch:Nat}(hh:o.aF.ef=.slice ah n ch):∀u∈o.cells,u.oneCell'=true:=by
 unfold jI.cells fW.cells;rw[hh];intro u hu;simp only[List.cons_append,List.nil_append,bE,bU,dL]at hu;rcases hu with rfl|rfl|rfl|rfl|rfl|rfl|rfl|rfl|rfl|rfl|rfl|rfl|rfl|rfl|rfl|rfl|rfl|rfl|rfl|rfl|rfl|rfl<;>rfl
def oK(o:jI×List gT):Bool:=!nV o.1.aF o.2||decide ((900:Int)<(o.1.aF.body.size:Int)+(o.1.text.size:Int)+(o.1.user.size:Int)+(o.1.pass.size:Int)+(o.1.bz.size:Int))
def DG(os:List (jI×List gT)):Bool:=decide (os.length<=30)&&!(os.any oK)
theorem ez.det{ys:cX}(h:ez k w v xs)(h':ez k w v ys):xs=ys:=by
 obtain⟨o1,h1⟩:=h;obtain⟨o2,h2⟩:=h';rcases h1 with ⟨a,c,hv,hs,_⟩|⟨bk,o,c,hv,_,_,_,h4⟩<;>rcases h2 with ⟨a',c',ua,Qt,_⟩|⟨bk',o',c',ua,_,_,_,h4'⟩
 ·rw[hs,Qt]
 ·rw[hv]at ua;injection ua with _ e _
  rw[hs];exact(dG.1 e.symm).symm
 ·rw[hv]at ua;injection ua with _ e _
  rw[Qt];exact dG.1 e
 ·rw[hv]at ua;injection ua with ea e _
  injection ea with ea
  injection ea with e1 e2
  subst e1 e2;refine List.ext_getElem e (fun j hj hj'=>?_);have lx:=(o1 _ (bQ hj)).1;have ly:=(o2 _ (bQ hj')).1;refine List.ext_getElem (lx.trans ly.symm) (fun i hi hi'=>?_);have q:=h4 j _ (List.getElem?_eq_getElem hj) i _ (List.getElem?_eq_getElem hi);have q':=h4' j _ (List.getElem?_eq_getElem hj') i _ (List.getElem?_eq_getElem hi');rw[q]at q';injection q'
theorem Vw{Qt:List gT}(h:hs.map gT.cells=Qt.map gT.cells):hs=Qt:=by
 have:=ar (List.map Ov) h;rw[gZ,gZ]at this;have e:∀l:List gT,l.map (Ov ∘ gT.cells)=l:=fun l=>by
  induction l with
  |nil=>rfl
  |cons p l ih=>rw[cA,ih];rfl
 rw[e,e]at this;exact this
theorem jI.QZ{o o':jI}(h:o.cells=o'.cells):o=o':=by
 obtain⟨a,⟨b,⟨c1,c2,c3⟩,⟨d1,d2,d3⟩,e1,e2,e3,e4,e5,e6⟩,f,g,h1,h2,i,j,k,l⟩:=o;obtain⟨a',⟨b',⟨c1',c2',c3'⟩,⟨d1',d2',d3'⟩,e1',ZL,e3',e4',e5',e6'⟩,f',g',PB,h2',i',j',k',l'⟩:=o';simp only[jI.cells,fW.cells,List.cons_append,List.nil_append,gK,Value.bool.injEq,Value.string.injEq,Value.int.injEq,true_and,jf]at h
 obtain⟨rfl,rfl,rfl,rfl,rfl,rfl,rfl,rfl,rfl,rfl,rfl,rfl,rfl,rfl,rfl,rfl,rfl,rfl,rfl,rfl,rfl,rfl⟩:=h;rfl
theorem adB{o o':jI×List gT}(h:rH w o.1 o.2)(h':rH w o'.1 o'.2)(e:o.1.cells=o'.1.cells):o=o':=by
 have e1:=jI.QZ e;have h2:=h'.aF.ef;rw[<-e1]at h2;have e2:=Vw (h.aF.ef.det h2);exact Prod.ext e1 e2
theorem Q0(o:jI)(hs:List gT)(w:World)(h:rH w o hs) :
  aE 26 #[.agg o.cells.toArray] w fun e w'=>e=.returned (.bool (oK (o,hs)))/\Fr aX w w':=by
 obtain⟨⟨hh,hl,oO,hz,hbd,_,_,_⟩,aiu,aiv,aiw,zcn,_,_,_⟩:=h;obtain⟨wb,jP⟩:∃wb,wb=w.alloc (.cells o.cells.toArray 33):=⟨_,rfl⟩;have kf:Fr aX w wb:=by rw[jP];exact(ae aX w).alloc _
 have l_:wb.heap[w.heap.size]?=some (.cells o.cells.toArray 33 (0,0)):=by rw[jP];exact aC _ _
 obtain⟨ah,ch,gu⟩:=dR hh;rw[aj]at gu;have HC:=O (show∀U,Fr aX wb U->U.cell? ⟨w.heap.size,13,none⟩=some (.string o.aF.body)/\U.cell? ⟨w.heap.size,15,none⟩=some (.string o.text)/\U.cell? ⟨w.heap.size,16,none⟩=some (.string o.user)/\U.cell? ⟨w.heap.size,17,none⟩=some (.string o.pass)/\U.cell? ⟨w.heap.size,18,none⟩=some (.string o.bz)from fun U hU=>by
  obtain⟨a0,a1,a2,a3,a4,a5,a6,a7,a8,a9,jy,jz,a12,jw,jA,jb,jJ,jK,jL,jT,a20,a21⟩:=eo (hU.keep l_ id) gu;exact⟨jw,jb,jJ,jK,jL⟩)
 have V2:=O (Hc o.aF hs wb (bM hh kf) hl oO hz);obtain⟨a0,a1,a2,a3,a4,a5,a6,a7,a8,a9,jy,jz,a12,jw,jA,jb,jJ,jK,jL,jT,a20,a21⟩:=eo l_ gu;rw[jP]at a1 a2 a3 a4 a5 a6 a7 a8 a9 jy jz a12 jw;rw[dN gu]at jP a1 a2 a3 a4 a5 a6 a7 a8 a9 jy jz a12 jw ⊢;rw[zg gu]at V2;have lV:=O kf;have qB:=O jP;clear hh hl oO hz kf l_ gu jP a0 jA jb jJ jK jL jT a20 a21;cases hrf:nV o.aF hs
 ·have HR:=O (show oK (o,hs)=true by unfold oK;simp only;rw[hrf];rfl);rw[hrf]at V2;clear hrf;go_enter func26,ntmps26;go_wp2_with fail
  rw[<-qB.o];refine V2.o.mono ?_;rintro e u⟨rfl,hf⟩;clear a1 a2 a3 a4 a5 a6 a7 a8 a9 jy jz a12 jw;go_wp2;go_ret;exact⟨by rw[HR.o];rfl,lV.o.trans hf⟩
 ·have HR:=O (show oK (o,hs)=decide ((900:Int)<(o.aF.body.size:Int)+(o.text.size:Int)+(o.user.size:Int)+(o.pass.size:Int)+(o.bz.size:Int))by unfold oK;simp only;rw[hrf];rfl);rw[hrf]at V2;clear hrf;go_enter func26,ntmps26;go_wp2_with fail
  rw[<-qB.o];refine V2.o.mono ?_;rintro e u⟨rfl,hf⟩;clear a1 a2 a3 a4 a5 a6 a7 a8 a9 jy jz a12 jw;obtain⟨b13,b15,b16,b17,b18⟩:=HC.o u hf;go_wp2;go_ret;exact⟨by rw[HR.o];rfl,lV.o.trans hf⟩
theorem Vx(v:Value)(os:List (jI×List gT))(w:World)(h:G_ w v os) :
  aE 8 #[v] w fun e w'=>e=.returned (.bool (DG os))/\Fr aX w w':=by
 classical
 obtain⟨hv,hl,ha⟩:=h;obtain⟨av,cv,gi⟩:=hv.form;rw[aj]at gi;subst gi;obtain⟨p,hp⟩:∃p:a_->Bool,∀o∈os,p o.1.cells=oK o:=⟨fun x=>decide (∃o∈os,o.1.cells=x/\oK o=true),fun o ho=>by
  cases hq:oK o
  ·refine bf (fun⟨o',DL,e,Kb⟩=>?_);rw[adB (ha o' DL) (ha o ho) e,hq]at Kb;cases Kb
  ·exact bD ⟨o,ho,rfl,hq⟩⟩
 have Qn:=O (Bp _ #[] p _ _ w call26 (fun x hx u hu=>by
  obtain⟨o,ho,rfl⟩:=cz.1 hx;rw[hp o ho];have h:=ha o ho;have h':rH u o.1 o.2:={h with aF:={h.aF with ef:=bM h.aF.ef hu}};simpa using Q0 o.1 o.2 u h') hv)
 have jd:=O (show(os.map fun o=>o.1.cells).any p=os.any oK by
  rw[List.any_map];clear Qn hv hl
  induction os with
  |nil=>rfl
  |cons o os ih =>
   rw[List.any_cons,List.any_cons,ih (fun x hx=>ha x (bV _ hx)) (fun x hx=>hp x (bV _ hx))];show(p o.1.cells||_)=_;rw[hp o (cY ..)])
 clear hp ha hv;by_cases h30:os.length<=30
 ·have hb:=O (show DG os=!(os.any oK)by unfold DG;rw[bD h30];rfl);have i30:(os.length:Int)<=30:=ab;have d30:decide ((os.length:Int)<=30)=true:=bD i30;go_enter func8,ntmps8;go_wp2_with fail
  refine Qn.o.mono ?_;rw[jd.o];rintro e u⟨rfl,hf⟩;go_wp2;go_ret;exact⟨fS hb.o.symm,hf⟩
 ·have hb:=O (show DG os=false by unfold DG;rw[bf h30];rfl);have i30:¬(os.length:Int)<=30:=ab;have d30:decide ((os.length:Int)<=30)=false:=bf i30;go_enter func8,ntmps8;go_wp2;go_ret;exact⟨fS hb.o.symm,ae _ _⟩
theorem gM.aix{o:jI}(h:rH w o hs)(hb:oK (o,hs)=false):gM w o hs:=by
 obtain⟨⟨hh,hl,oO,hz,hbd,z1,z2,z3⟩,aiu,aiv,aiw,zcn,y1,y2,y3⟩:=h;unfold oK at hb;simp only[eA,Bool.not_eq_false',decide_eq_false_iff_not]at hb;obtain⟨h1,h2⟩:=hb;have hq:=h1;unfold nV at hq;simp only[cF,dM]at hq;obtain⟨hf,hq⟩:=hq;have b1:=Go.bounds_i64 z1;have b2:=Go.bounds_i64 z2;have b3:=Go.bounds_i64 z3;have b4:=Go.bounds_i64 y1;have b5:=Go.bounds_i64 y2;have b6:=Go.bounds_i64 y3;unfold KK at hf
 simp only[cF,dM,Bool.not_eq_true',fA]at hf;exact⟨hh,⟨ab,ab,fun p hp=>by
  have:=hf.2 p hp;unfold QY at this;rw[dM]at this;omega⟩,ab,ab,ab,ab,ab,ab,ab,ab,ab,ab,b2,b3,b1,b4,b5,b6⟩
theorem T_{P G:Nat->bW->World->Prop}{T:Prop}(main:(∀a b c,P a b c->G a b c)->T)(rest:∀a b c,P a b c->G a b c):T:=main rest
def sq(base:Nat)(a:World)(B off:Nat)(cs:a_)(v:dn)(p:eD)(n:Nat)(X:bW)(t:TypeId)(W:World):Prop :=
 ∃v',eQ base W v' p/\Fr (ze B v) a W/\(∀k,v'.jS k->v.jS k\/a.heap.size<=k)/\W.heap[B]?=some (.cells (oU cs off v').toArray 97 (0,0))/\W.heap[n]?=some (.cells X t (0,0))/\¬v'.jS n/\a.heap.size<=n
section
variable {base B off n : Nat} {a w3 u : World} {cs : List Value} {v : dn} {p p0 : eD} {z : Array Value} {t : TypeId}
theorem sq.core{v':dn}(h1:eQ base u v' p)(h2:Fr (ze B v) a u)(h3:∀k,v'.jS k->v.jS k\/a.heap.size<=k)(h4:u.heap[B]?=some (.cells (oU cs off v').toArray 97 (0,0)))(hn:u.heap[n]?=some (.cells z t (0,0)))(hf:¬v'.jS n)(T':a.heap.size<=n)(oX:base<=a.heap.size)(hB:B<a.heap.size)(hs:t≠9)(X:bW) :
  sq base a B off cs v p n X t (u.setRow n X)/\∀vv ss,df base u vv ss->df base (u.setRow n X) vv ss:=by
 have kx:Fr (one n) u (u.setRow n X):=(ae (one n) u).setRow (fun _=>rfl) _;have mJ:rJ base u (one n):=by
  rintro k rfl _;exact⟨ab,fun c f e=>by rw[hn]at e;cases e;exact hs rfl⟩
 refine⟨⟨v',h1.fr kx mJ (fun i hi e=>?_),h2.step kx (fun k hk e=>?_),h3,kx.keep h4 (fun e=>?_),nS hn,hf,T'⟩,fun vv ss h=>h.fr kx mJ⟩
 ·have e':i=n:=e;subst e';exact hf hi
 ·have e':k=n:=e;omega
 ·have e':B=n:=e;omega
theorem sq.after(h:cW base a B cs off v p u)(oX:base<=a.heap.size)(hB:B<a.heap.size)(hs:t≠9)(z X:bW) :
  sq base a B off cs v p u.heap.size X t ((u.alloc (.cells z t)).setRow u.heap.size X)/\∀vv ss,df base u vv ss->df base ((u.alloc (.cells z t)).setRow u.heap.size X) vv ss:=by
 obtain⟨v',h1,h2,h3,h4⟩:=h;have ix:Fr aX u (u.alloc (.cells z t)):=(ae aX u).alloc _;obtain⟨g1,g2⟩:=sq.core (h1.dx ix) (h2.alloc _) h3 (ix.keep h4 id) (aC _ _) (fun hf=>by have:=h1.je hf;omega) h2.size oX hB hs X;exact⟨g1,fun vv ss hv=>g2 vv ss (hv.dx ix)⟩
theorem sq.before(h0:eQ base a v p0)(f3:Fr aX a w3)(T':a.heap.size<=n)(hn:w3.heap[n]?=some (.cells z t (0,0)))(h:cW base w3 B cs off v p u)(oX:base<=a.heap.size)(hB:B<a.heap.size)(hs:t≠9)(X:bW) :
  sq base a B off cs v p n X t (u.setRow n X)/\∀vv ss,df base u vv ss->df base (u.setRow n X) vv ss:=by
 obtain⟨v',h1,h2,h3,h4⟩:=h;have hv:¬v.jS n:=fun hf=>by have:=h0.je hf;omega
 have hl:=bg hn;refine sq.core h1 (fN (S:=ze B v) (f3.mono (fun _ _ h=>absurd h id)) h2 (fun _ _ h=>h)) (fun k hk=>?_) h4 (h2.keep hn (fun e=>?_)) (fun hf=>?_) T' oX hB hs X
 ·rcases h3 k hk with h|h
  ·exact Or.inl h
  ·exact Or.inr (aH f3.size h)
 ·rcases e with e|e
  ·omega
  ·exact hv e
 ·rcases h3 n hf with h|h
  ·exact hv h
  ·omega
end
theorem OwnRows.mono{e:TypeId}(h:OwnRows b e k w v xs)(hb:b'<=b):OwnRows b' e k w v xs:=⟨h.1,World.ownsRow.mono h.2 hb⟩
theorem eP.mono{ps:List ep}(h:eP b w n v ps)(hb:b'<=b):eP b' w n v ps:=⟨aH hb h.low,h.eK,OwnRows.mono h.rows hb⟩
def cpP(qv:Nat->dn)(k i:Nat):a_:=if i<k then(qv i).cells else [.pointer none,.pointer none,.slice none 0 0]
def cpC(qv:Nat->dn)(now:Int)(k:Nat):a_:=cpP qv k 0++(cpP qv k 1++(cpP qv k 2++(cpP qv k 3++[.int .i64 now])))
theorem UA(qv:Nat->dn)(now:Int)(hk:k<4)(v:dn):oU (cpC qv now k) (k*3) v=cpC (xS qv k v) now (k+1):=by
 unfold oU cpC cpP xS dn.cells
 match k,hk with
 |0,_=>rfl
 |1,_=>rfl
 |2,_=>rfl
 |3,_=>rfl
theorem acP(qv:Nat->dn)(now:Int)(hk:k<4):(cpC qv now k)[k*3]?=some (.pointer none)/\(cpC qv now k)[k*3+1]?=some (.pointer none)/\(cpC qv now k)[k*3+2]?=some (.slice none 0 0):=by
 unfold cpC cpP
 match k,hk with
 |0,_=>exact⟨rfl,rfl,rfl⟩
 |1,_=>exact⟨rfl,rfl,rfl⟩
 |2,_=>exact⟨rfl,rfl,rfl⟩
 |3,_=>exact⟨rfl,rfl,rfl⟩
structure J' (base:Nat) (w:World) (x:ed) (k:Nat) (qv:Nat->dn) (W:World):Prop where
 fr:Fr aX w W
 eK:W.heap[w.heap.size]?=some (.cells (cpC qv x.now k).toArray 97 (0,0))
 part:∀i,i<k->eQ base W (qv i) (x.part i)
 new:∀i,i<k->∀j,(qv i).jS j->w.heap.size<j
 apart:∀i j,i<k->j<k->i≠j->∀n,(qv i).jS n->¬(qv j).jS n
theorem J'.step{U:World}{qv:Nat->dn}(h:J' base w x k qv W)(hb:base<=w.heap.size)(hk:k<4)(hU:Fr aX W U){v:dn}(hp:eQ base U v (x.part k))(hn:∀j,v.jS j->W.heap.size<=j) :
  J' base w x (k+1) (xS qv k v) (((U.setCell ⟨w.heap.size,k*3,none⟩ (.pointer (some ⟨v.b,0,none⟩))).setCell ⟨w.heap.size,k*3+1,none⟩ (.pointer (some ⟨v.k,0,none⟩))).setCell ⟨w.heap.size,k*3+2,none⟩ v.cv):=by
 have hN:w.heap.size<W.heap.size:=bg h.eK;have pG:=hU.keep h.eK id;have DM:Fr (one w.heap.size) U (((U.setCell ⟨w.heap.size,k*3,none⟩ (.pointer (some ⟨v.b,0,none⟩))).setCell ⟨w.heap.size,k*3+1,none⟩ (.pointer (some ⟨v.k,0,none⟩))).setCell ⟨w.heap.size,k*3+2,none⟩ v.cv) :=
  (((ae (one w.heap.size) U).setCell (p:=⟨w.heap.size,k*3,none⟩) (fun _=>rfl) _).setCell (p:=⟨w.heap.size,k*3+1,none⟩) (fun _=>rfl) _).setCell (p:=⟨w.heap.size,k*3+2,none⟩) (fun _=>rfl) _
 have mJ:rJ base U (one w.heap.size):=by
  rintro j rfl _;exact⟨hb,fun c f e=>by rw[pG]at e;cases e⟩
 have e1:=cg pG (k*3) (.pointer (some ⟨v.b,0,none⟩));have e2:=cg e1 (k*3+1) (.pointer (some ⟨v.k,0,none⟩));have e3:=cg e2 (k*3+2) v.cv;have old:∀i,i<k->∀j,(qv i).jS j->j<W.heap.size:=fun i hi j hj=>(h.part i hi).je hj
 refine⟨(((h.fr.trans hU).gI (p:=⟨w.heap.size,k*3,none⟩) (az _) _).gI (p:=⟨w.heap.size,k*3+1,none⟩) (az _) _).gI (p:=⟨w.heap.size,k*3+2,none⟩) (az _) _,?_,fun i hi=>?_,fun i hi j hj=>?_,fun i j hi hj OS n Hm BD=>?_⟩
 ·rw[e3, <-UA qv x.now hk v];unfold oU;simp
 ·by_cases KP:i=k
  ·subst KP;rw[sk];exact hp.fr DM mJ (fun j hj e=>by have e':j=w.heap.size:=e;have:=hn j hj;omega)
  ·rw[ml qv v KP];have ahk:i<k:=ab;exact((h.part i ahk).dx hU).fr DM mJ (fun j hj e=>by have e':j=w.heap.size:=e;have:=h.new i ahk j hj;omega)
 ·by_cases KP:i=k
  ·subst KP;rw[sk]at hj;have:=hn j hj;omega
  ·rw[ml qv v KP]at hj;exact h.new i ab j hj
 ·by_cases KP:i=k
  ·subst KP;rw[sk]at Hm;rw[ml qv v (kE OS)]at BD;have a1:=hn n Hm;have a2:=old j ab n BD;omega
  ·rw[ml qv v KP]at Hm;by_cases hjk:j=k
   ·subst hjk;rw[sk]at BD;have a1:=hn n BD;have a2:=old i ab n Hm;omega
   ·rw[ml qv v hjk]at BD;exact h.apart i j ab ab OS n Hm BD
theorem J'.done{qv:Nat->dn}(h:J' base w x 4 qv W)(hb:base<=w.heap.size):di base W w.heap.size qv x :=
 ⟨hb,h.eK,h.part,h.apart⟩
def ahl(base:Nat)(w:World)(x:ed)(t:Value)(wr:World):Prop:=∃(k:Nat) (qv:Nat->dn),k<=4/\t=.int .i64 k/\J' base w x k qv wr
def Ft(base:Nat)(w:World)(x:ed)(e:Ending)(w':World):Prop :=
 ∃B qv,e=.returned (.pointer (some ⟨B,0,none⟩))/\di base w' B qv x/\Fr aX w w'/\∀j,mo B qv j->w.heap.size<=j
theorem Ai(base:Nat)(w:World)(B:Nat)(pv:Nat->dn)(x:ed)(h:di base w B pv x)(hs:∀i,i<4->(x.part i).bZ.length<68719476736/\(x.part i).waits.length<68719476736/\(x.part i).book.length<1000000/\(x.part i).eJ.length<=1000000) :
  aE 29 #[.pointer (some ⟨B,0,none⟩)] w (Ft base w x):=by
 have hb:base<=w.heap.size:=aH h.low (Nat.le_of_lt h.lt);obtain⟨x1,ov⟩:∃x1,x1=w.alloc (.cells #[.pointer none,.pointer none,.slice none 0 0,.pointer none,.pointer none,.slice none 0 0,.pointer none,.pointer none,.slice none 0 0,.pointer none,.pointer none,.slice none 0 0,.int .i64 x.now] 97):=⟨_,rfl⟩;have dw:Fr aX w x1:=by rw[ov];exact(ae _ _).alloc _
 have h0:J' base w x 0 pv x1:=⟨dw,by rw[ov];exact aC _ _,fun i hi=>absurd hi (ct i),fun i hi=>absurd hi (ct i),fun i j hi=>absurd hi (ct i)⟩;have H0:=O h0;have HW:=O h;have HB:=O hb;have HS:=O hs;have pG:=h.eK;have rE:=dw.keep h.eK id;unfold iz dn.cells at pG rE;simp only[List.cons_append,List.nil_append]at pG rE;have Yt:w.cell? ⟨B,12,none⟩=some (.int .i64 x.now):=by simp only[World.cell?,pG];rfl
 have c0:x1.cell? ⟨B,0,none⟩=some (.pointer (some ⟨(pv 0).b,0,none⟩)):=by simp only[World.cell?,rE];rfl
 have c1:x1.cell? ⟨B,1,none⟩=some (.pointer (some ⟨(pv 0).k,0,none⟩)):=by simp only[World.cell?,rE];rfl
 have c2:x1.cell? ⟨B,2,none⟩=some ((pv 0).cv):=by simp only[World.cell?,rE];rfl
 have c3:x1.cell? ⟨B,3,none⟩=some (.pointer (some ⟨(pv 1).b,0,none⟩)):=by simp only[World.cell?,rE];rfl
 have c4:x1.cell? ⟨B,4,none⟩=some (.pointer (some ⟨(pv 1).k,0,none⟩)):=by simp only[World.cell?,rE];rfl
 have c5:x1.cell? ⟨B,5,none⟩=some ((pv 1).cv):=by simp only[World.cell?,rE];rfl
 have c6:x1.cell? ⟨B,6,none⟩=some (.pointer (some ⟨(pv 2).b,0,none⟩)):=by simp only[World.cell?,rE];rfl
 have c7:x1.cell? ⟨B,7,none⟩=some (.pointer (some ⟨(pv 2).k,0,none⟩)):=by simp only[World.cell?,rE];rfl
 have c8:x1.cell? ⟨B,8,none⟩=some ((pv 2).cv):=by simp only[World.cell?,rE];rfl
 have c9:x1.cell? ⟨B,9,none⟩=some (.pointer (some ⟨(pv 3).b,0,none⟩)):=by simp only[World.cell?,rE];rfl
 have Gu:x1.cell? ⟨B,10,none⟩=some (.pointer (some ⟨(pv 3).k,0,none⟩)):=by simp only[World.cell?,rE];rfl
 have TB:x1.cell? ⟨B,11,none⟩=some ((pv 3).cv):=by simp only[World.cell?,rE];rfl
 have Xw:=O (show∀k:Nat,k<4->∀u,Sem.run prog (Instr.index 95 (.agg #[.pointer (some ⟨(pv 0).b,0,none⟩),.pointer (some ⟨(pv 0).k,0,none⟩),(pv 0).cv,.pointer (some ⟨(pv 1).b,0,none⟩),.pointer (some ⟨(pv 1).k,0,none⟩),(pv 1).cv,.pointer (some ⟨(pv 2).b,0,none⟩),.pointer (some ⟨(pv 2).k,0,none⟩),(pv 2).cv,.pointer (some ⟨(pv 3).b,0,none⟩),.pointer (some ⟨(pv 3).k,0,none⟩),(pv 3).cv]) (.int .i64 k)) u=.ok (.agg #[.pointer (some ⟨(pv k).b,0,none⟩),.pointer (some ⟨(pv k).k,0,none⟩),(pv k).cv]) u from fun k hk u=>by
  rcases(show k=0\/k=1\/k=2\/k=3 from ab)with rfl|rfl|rfl|rfl
  ·kernel_rfl
  ·kernel_rfl
  ·kernel_rfl
  ·kernel_rfl)
 have ZR:=O ov;rw[ov]at c0 c1 c2 c3 c4 c5 c6 c7 c8 c9 Gu TB;clear h0 h hb hs pG rE ov dw;go_enter func29,ntmps29;go_wp2_with fail
 rw[<-ZR.o];clear c0 c1 c2 c3 c4 c5 c6 c7 c8 c9 Gu TB Yt;go_loopw[16] (ahl base w x) (fun i _=>4-(intOf i).toNat)
 case atStart=>exact⟨0,pv,aW _,rfl,H0.o⟩
 case round =>
  obtain⟨k,qv,hk,rfl,hcp⟩:=hrel;by_cases fE:k<4
  ·have qm:(k:Int)<4:=ab;have T6:¬(k:Int)<0:=ab;have amM:(0:Int)<=(k:Int):=ab;have acR:¬(4:Int)<=(k:Int):=ab;have v_:=Xw.o k fE;have Rt:=O hcp;have Yu:=O fE;obtain⟨cvk,amN⟩:∃c,c=(pv k).cv:=⟨_,rfl⟩;obtain⟨ca,cc,Qn⟩:=(HW.o.part k fE).eJ.form;rw[aj]at Qn;rw[Qn]at v_
   obtain⟨y1,DK⟩:∃y1,y1=wr.alloc (.cells #[.pointer (some ⟨(pv k).b,0,none⟩),.pointer (some ⟨(pv k).k,0,none⟩),.slice ca (x.part k).eJ.length cc] 94):=⟨_,rfl⟩;have hfy:Fr aX wr y1:=by rw[DK];exact(ae _ _).alloc _
   have qC:y1.heap[wr.heap.size]?=some (.cells #[.pointer (some ⟨(pv k).b,0,none⟩),.pointer (some ⟨(pv k).k,0,none⟩),.slice ca (x.part k).eJ.length cc] 94 (0,0)):=by rw[DK];exact aC _ _
   have HWY:=O (HW.o.dx (hcp.fr.trans hfy));have HFY:=O hfy;have HBY:=O qC;have HY1:=O DK;have HCF:=O Qn;have HC:=O (show∀U,Fr aX y1 U->(U.cell? ⟨wr.heap.size,0,none⟩=some (.pointer (some ⟨(pv k).b,0,none⟩))/\U.cell? ⟨wr.heap.size,1,none⟩=some (.pointer (some ⟨(pv k).k,0,none⟩))/\U.cell? ⟨wr.heap.size,2,none⟩=some (.slice ca (x.part k).eJ.length cc))from fun U hU=>by
    have j:=hU.keep HBY.o id;refine⟨?_,?_,?_⟩<;>simp[World.cell?,j])
   have HKB:=O (show∀U,Fr aX y1 U->aE 39 #[.pointer (some ⟨(pv k).b,0,none⟩)] U (JD base U (x.part k).bZ (x.part k).waits)from fun U hU=>Tw base U (pv k).b (pv k).gv (pv k).wv (x.part k).bZ (x.part k).waits ((HWY.o.dx hU).part k Yu.o).oT (HS.o k Yu.o).1 (HS.o k Yu.o).2.1)
   have HKK:=O (show∀U,Fr aX y1 U->aE 40 #[.pointer (some ⟨(pv k).k,0,none⟩)] U fun e w'=>∃b' v',e=.returned (.pointer (some ⟨b',0,none⟩))/\eP U.heap.size w' b' v' (x.part k).book/\Fr aX U w' from fun U hU=>GL base U (pv k).k (pv k).kv (x.part k).book ((HWY.o.dx hU).part k Yu.o).book (HS.o k Yu.o).2.2.1)
   have HKC:=O (show∀U,Fr aX y1 U->aE 41 #[.slice ca (x.part k).eJ.length cc] U fun e w'=>∃v',e=.returned v'/\OwnRows U.heap.size 105 4 w' v' ((x.part k).eJ.map lS)/\Fr aX U w' from fun U hU=>by
    have hh:=((HWY.o.dx hU).part k Yu.o).eJ.at;rw[HCF.o]at hh;exact Ys _ _ U hh (by rw[aj];have:=(HS.o k Yu.o).2.2.2;omega))
   clear hcp hfy qC DK Qn amN cvk fE;go_wp2_with fail
   rw[<-HY1.o];refine wp_region_held_drew (S:=(fun U=>U.cell? ⟨wr.heap.size,0,none⟩=some (.pointer (some ⟨(pv k).b,0,none⟩))/\U.cell? ⟨wr.heap.size,1,none⟩=some (.pointer (some ⟨(pv k).k,0,none⟩))/\U.cell? ⟨wr.heap.size,2,none⟩=some (.slice ca (x.part k).eJ.length cc))) af (HC.o _ (aA (ae _ _))) ?_;intro xg;refine aP 0 20 rfl ?_;refine aP 1 21 rfl ?_;refine aP 2 22 rfl ?_;refine aP 3 23 rfl ?_
   refine aP 5 25 rfl ?_;refine aP 6 26 rfl ?_;refine aP 8 28 rfl ?_;refine aP 9 29 rfl ?_;refine aP 12 32 rfl ?_;refine aP 13 33 rfl ?_;refine eE 4 rfl fun K hK=>?_;go_simp;refine(HKB.o _ (aA (ae aX y1))).mono ?_;rintro e u1⟨kb,kg,kw,rfl,hb,hf,hn⟩;have lA:=O ((aA (ae aX y1)).trans hf);have GK:=O hf;have HGB:=O hb;have HGN:=O hn;clear hb hf hn;refine hK.out _ _ (HC.o _ lA.o) ?_;intro wM;clear hK xg K
   try simp only[Act.put,sA,sB,sC]
   refine eE 7 rfl fun K hK=>?_;go_simp;refine(HKK.o _ (lA.o)).mono ?_;rintro e u2⟨kk,kv,rfl,hb,hf⟩;have fR:=O ((lA.o).trans hf);have Yd:=O hf;have HGK:=O hb;clear hb hf;refine hK.out _ _ (HC.o _ fR.o) ?_;intro yb;clear hK wM K
   try simp only[Act.put,sA,sB,sC]
   refine eE 10 rfl fun K hK=>?_;go_simp;refine(HKC.o _ (fR.o)).mono ?_;rintro e u3⟨kc,rfl,hb,hf⟩;have il:=O ((fR.o).trans hf);have HQ3:=O hf;have HGC:=O hb;obtain⟨na,nc,Us⟩:=hb.form;rw[aj]at Us;subst Us;clear hb hf;refine hK.out _ _ (HC.o _ il.o) ?_;intro Ea;clear hK yb K
   try simp only[Act.put,sA,sB,sC]
   refine aP 11 31 rfl ?_;refine aP 14 34 rfl ?_;refine eE 15 rfl fun K hK=>?_
   have iQ:=Rt.o.step HB.o Yu.o (HFY.o.trans il.o) (v:=⟨kb,kg,kw,kk,kv,.slice na (x.part k).eJ.length nc⟩) ⟨HGB.o.dx (Yd.o.trans HQ3.o),(eP.mono HGK.o (aH (aH HB.o Rt.o.fr.size) (HFY.o.trans (lA.o)).size)).dx HQ3.o,OwnRows.fr (OwnRows.mono HGC.o (aH (aH HB.o Rt.o.fr.size) (HFY.o.trans (fR.o)).size)) (ae _ _) (fun _ _ h=>h)⟩ (by
    rintro j(hj|hj|hj)
    ·exact aH (HFY.o.trans (aA (ae _ _))).size (HGN.o j hj)
    ·exact aH (HFY.o.trans (lA.o)).size (HGK.o.np hj)
    ·exact aH (HFY.o.trans (fR.o)).size (HGC.o.block _ hj))
   have mC:=O iQ;have su:=il.o.keep (HFY.o.keep Rt.o.eK id) id;obtain⟨q0,q1,q2⟩:=acP qv x.now Yu.o;have c0:u3.cell? ⟨w.heap.size,k*3,none⟩=some (.pointer none):=by simp[World.cell?,su,q0]
   have c1:u3.cell? ⟨w.heap.size,k*3+1,none⟩=some (.pointer none):=by simp[World.cell?,su,q1]
   have c2:u3.cell? ⟨w.heap.size,k*3+2,none⟩=some (.slice none 0 0):=by simp[World.cell?,su,q2]
   have f0:∀j,u3.frozen? ⟨w.heap.size,j,none⟩=false:=fun j=>by simp[World.frozen?,su]
   have f1:=f0 (k*3);have f2:=f0 (k*3+1);have f3:=f0 (k*3+2);obtain⟨W9,hw9⟩:∃W9,W9=((u3.setCell ⟨w.heap.size,k*3,none⟩ (.pointer (some ⟨kb,0,none⟩))).setCell ⟨w.heap.size,k*3+1,none⟩ (.pointer (some ⟨kk,0,none⟩))).setCell ⟨w.heap.size,k*3+2,none⟩ (.slice na (x.part k).eJ.length nc):=⟨_,rfl⟩
   have HS9:=O (show J' base w x (k+1) (xS qv k ⟨kb,kg,kw,kk,kv,.slice na (x.part k).eJ.length nc⟩) W9 by rw[hw9];exact mC.o);have DM:Fr (one w.heap.size) u3 W9:=by rw[hw9];exact(((ae (one w.heap.size) u3).setCell (p:=⟨w.heap.size,k*3,none⟩) (fun _=>rfl) _).setCell (p:=⟨w.heap.size,k*3+1,none⟩) (fun _=>rfl) _).setCell (p:=⟨w.heap.size,k*3+2,none⟩) (fun _=>rfl) _
   have MH:=DM.keep (il.o.keep HBY.o id) (fun e=>by have e':wr.heap.size=w.heap.size:=e;have:=bg Rt.o.eK;omega);have HB9:=O MH;clear DM MH;clear iQ q0 q1 q2 f0 su;go_simp;rw[<-hw9];clear hw9;have MH:=HB9.o;refine hK.out _ _ ⟨by simp[World.cell?,MH],by simp[World.cell?,MH],by simp[World.cell?,MH]⟩ ?_;intro Ae;clear hK Ea K Ae MH
   try simp only[Act.put,sA,sB,sC]
   refine wpAnyH_done af ?_ _;go_wp2_with fail
   go_roundw
   case rel=>exact⟨k+1,_,ab,bh,HS9.o⟩
   case measure=>simp[intOf];omega
  ·have I7:k=4:=ab;subst I7;have HD:=O (hcp.done HB.o);have ue:=O hcp.fr;have HNW:=O (show∀j,mo w.heap.size qv j->w.heap.size<=j from fun j hj=>by
    rcases hj with rfl|⟨i,hi,hj⟩
    ·exact az _
    ·exact Nat.le_of_lt (hcp.new i hi j hj))
   clear hcp H0;go_wp2;go_ret;exact⟨_,_,rfl,HD.o,ue.o,HNW.o⟩
theorem QA:(prog.info? 105).map (fun i=>(i.zero,i.size,i.bytes))=some (some (.agg V8),4,40):=af
theorem MV{w4:World}{l:List (gz×Int)}{c:gz×Int}{gg cap:Nat}(h:w4.ownsRow base 105 4 (.slice (some ⟨gg,0,none⟩) (l.length+1) cap) (l.length+1) ((l.map lS).flatten++lS c)) :
  OwnRows base 105 4 w4 (.slice (some ⟨gg,0,none⟩) (l.length+1) cap) ((l++[c]).map lS):=by
 refine⟨fun x hx=>?_,?_⟩
 ·obtain⟨q,_,rfl⟩:=cz.1 hx;exact⟨rfl,Fz q⟩
 ·rw[bI,eh,aM,aj];simpa using h
theorem MW(base:Nat)(w:World)(B off:Nat)(cs:a_)(v:dn)(p:eD)(o:jI)(hs:List gT)(h:eQ base w v p)(ha:gJ w B cs off v)(oX:base<=B)(hf:gM w o hs)(hk:mT p) :
  aE 47 #[.pointer (some ⟨B,off,none⟩),.agg o.cells.toArray] w (eG base w B cs off v (oD p (o.dX hs))):=by
 have uo:B<w.heap.size:=bg ha.eK;have Fq:¬v.jS B:=h.fa ha.eK ag;obtain⟨ah,ch,gu⟩:=hf.h_;obtain⟨w2,eC⟩:∃w2,w2=(w.alloc (.cells o.cells.toArray 33)).alloc (.cells bP 46):=⟨_,rfl⟩;have dF:Fr aX w w2:=by rw[eC];exact((ae aX w).alloc _).alloc _
 have k1:w2.heap[w.heap.size]?=some (.cells o.cells.toArray 33 (0,0)):=by rw[eC];exact((ae aX _).alloc _).keep (aC _ _) id
 have k2:w2.heap[w.heap.size+1]?=some (.cells bP 46 (0,0)):=by
  have h:=aC (w.alloc (.cells o.cells.toArray 33)) (.cells bP 46);rw[bK]at h;rw[eC];exact h
 have wG:w2.heap.size=w.heap.size+2:=by rw[eC];simp
 have Up:=O (show∀U,Fr aX w2 U->U.heap[w.heap.size]?=some (.cells o.cells.toArray 33 (0,0))from fun U hU=>hU.keep k1 id);have BK:=O Fq;have HH:=O h;have HA:=O ha;have HF:=O hf;have lf:=O gu;have HK:=O hk;have fR:=O dF;have mD:=O k1;have qt:=O k2;have pS:=O (show base<=w.heap.size from ab);have wJ:=O oX;have oH:=O uo;have P8:=O eC
 obtain⟨a0,a1,a2,a3,a4,a5,a6,a7,a8,a9,jy,jz,a12,jw,jA,jb,jJ,jK,jL,jT,a20,a21⟩:=eo k1 gu;rw[eC]at a0 a1 a2 a3 a4 a5 a6 a7 a8 a9 jy jz a12 jw jA jb jJ jK jL jT a20 a21;rw[dN gu]at eC a0 a1 a2 a3 a4 a5 a6 a7 a8 a9 jy jz a12 jw jA jb jJ jK jL jT a20 a21 ⊢;unfold bP at eC a0 a1 a2 a3 a4 a5 a6 a7 a8 a9 jy jz a12 jw jA jb jJ jK jL jT a20 a21;have ow:=O eC;clear eC gu dF k1 k2 h ha hf Fq hk
 go_enter func47,ntmps47;have Qj:=HK.o.re;by_cases ahZ:o.cert<0
 ·have HR:=O (show oD p (o.dX hs)=(p,rep 7)by
   unfold oD;rw[aB (show(o.dX hs).cert<0 from ahZ)])
  have HP:=O (lT HH.o HA.o fR.o);have rN:=ow.o;subst rN;go_wp2_with (first|((with_reducible refine cU 46 ?_);refine aI rfl 46 (.tmp 4) (.tmp 9) rfl (w.heap.size+1) #[.int .i64 7,.string ⟨#[]⟩,.int .i64 0] rfl rfl _ bP qt.o (ba _ rfl) rfl bS ?_)|fail)
  refine aR (bj bB _ _ (w.heap.size+1) 46 #[.int .i64 7,.string ⟨#[]⟩,.int .i64 0] (0,0) _ rfl (aY _ (w.heap.size+1) _ _ _ _ qt.o) underlying46 rfl (ba _ rfl)) rfl ?_;unfold eG;rw[HR.o];exact⟨rfl,dv HP.o pS.o oH.o (bT _) qt.o eN ag _⟩
 ·have HR:=O (show oD p (o.dX hs)=({p with eJ:=xc p.eJ o.aF.o o.cert},rep 1)by
   unfold oD;rw[ay (show¬(o.dX hs).cert<0 from ahZ)];rfl)
  have DR:=O (Ks base w2 B off cs v p o.aF.o (HH.o.dx fR.o) (HA.o.dx fR.o) wJ.o);unfold gz.cells at DR;have hx:=ow;have rN:=ow.o;go_wp2_with fail
  rw[<-rN];refine DR.o.mono ?_;rintro e u3⟨rfl,hp3⟩;clear DR a0 a1 a2 a3 a4 a5 a6 a7 a8 a9 jy jz a12 jw jA jb jJ jK jL jT a20 a21 hx rN;obtain⟨v3,i3,f3,aas,ah0⟩:=hp3;have aa3:=ia (HA.o.dx fR.o) ah0;have o3:=eI (HH.o.dx fR.o) f3 (show w2.heap[w.heap.size]?=_ from mD.o) kX ab;have r3:=eI (HH.o.dx fR.o) f3 (show w2.heap[w.heap.size+1]?=_ from qt.o) dS ab
  obtain⟨a0,a1,a2,a3,a4,a5,a6,a7,a8,a9,jy,jz,a12,jw,jA,jb,jJ,jK,jL,jT,a20,a21⟩:=eo o3 lf.o;obtain⟨fs,kx⟩:∃fs,fs=JN o.aF.o p.eJ:=⟨_,rfl⟩;have yR:fs.length<=8:=by rw[kx];unfold JN;exact aH (bR _ _) Qj.2.2.2
  rw[<-kx]at i3;obtain⟨av,cv,hcv⟩:=i3.eJ.form;rw[aj]at hcv;have d2:=aa3.lQ;have e2:=aa3.free (off+2);rw[hcv]at d2;have cQ:u3.ownsRow base 105 4 (.slice av fs.length cv) fs.length (fs.map lS).flatten:=by
   have h:=i3.eJ.2;rw[hcv,aj]at h;exact h
  have hB3:¬own (.slice av fs.length cv) B:=fun hb=>i3.fa aa3.eK ag (Or.inr (Or.inr (by rw[hcv];exact hb)));have ah1:B<u3.heap.size:=bg aa3.eK;have aty:base<=u3.heap.size:=by have:=wJ.o;omega
  obtain⟨i0,rL,pA,kP,kR⟩:=info_parts QA;have wH:=O (Fz (o.aF.o,o.cert));have I3:=O i3;have A3:=O aa3;have F3:=O f3;have FT3:=O aas;have O3:=O o3;have R3:=O r3;have wL:=O hcv;have Tk:=O kx;clear i3 aa3 f3 aas o3 r3 ah0 hcv kx;go_wp2_with fail
  go_region_law ((with_reducible refine mF ⟨some 29,_,_,_,_,_⟩ ?_)
                 refine step_append_lies _ bB _ _ _ bB base 105 i0 _ 4 40 underlying92 rL pA kP kR rfl ab (.slice av fs.length cv) fs.length _ bB (by repeat(first|exact cQ|apply World.ownsRow.alloc|apply World.ownsRow.drew)) ⟨u3.heap.size,0,none⟩ 1 1 (lS (o.aF.o,o.cert)) bB bB (ky u3 (lS (o.aF.o,o.cert)) _) wH.o ab ft ab bH (u3.heap.size+1) aS ?_
                 intro gg cap w4 eV jq dT Jz
                 have jN:Fr (own (.slice av fs.length cv)) u3 w4:=fg (by repeat(first|exact ae _ _|apply aA|apply bq)) jq (fun _ hk _=>hk)
                 have k4:w4.cell? ⟨B,off+2,none⟩=some (.slice av fs.length cv):=(jN.cell (p:=⟨B,off+2,none⟩) ah1 hB3).trans d2
                 have e4:w4.frozen? ⟨B,off+2,none⟩=false:=(jN.frozen (p:=⟨B,off+2,none⟩) ah1 hB3).trans e2)
  all_goals
   have hP:=cW.eJ I3.o A3.o wJ.o (MV eV) (by rw[wL.o];exact jN) (fun k hk=>by
    have e:gg=k:=by simpa[own,Value.ownBlock]using hk
    subst e;rcases dT with dT|dT
    ·exact Or.inl (by rw[wL.o];exact dT)
    ·exact Or.inr ab)
   clear eV jq jN k4 e4 dT Jz cQ a0 a1 a2 a3 a4 a5 a6 a7 a8 a9 jy jz a12 jw jA jb jJ jK jL jT a20 a21 d2 e2;generalize w4.setCell ⟨B,off+2,none⟩ (.slice (some ⟨gg,0,none⟩) (fs.length+1) cap)=w5 at *
   obtain⟨v5,i5,f5,Kt,UQ⟩:=hP;have aa5:=ia A3.o UQ;have r5:=eI I3.o f5 R3.o dS ab;obtain⟨av5,cv5,YE⟩:=i5.eJ.form;have zV:(List.map lS (fs++[(o.aF.o,o.cert)])).length=fs.length+1:=aS;rw[zV]at YE;have d5:=aa5.lQ;have e5:=aa5.free (off+2);rw[YE]at d5;have I5:=O i5;have F5:=O f5;have FT5:=O Kt;have AA5:=O aa5;have R5:=O r5;have UR:=O YE;have Rk:=O zV;clear i5 f5 Kt aa5 r5 YE zV UQ
   by_cases h8:8<=fs.length
   ·have ZS:(8:Int)<(fs.length:Int)+1:=ab;obtain⟨n,hn⟩:∃n:Nat,fs.length+1=n+8:=⟨fs.length+1-8,ab⟩;obtain⟨g5,rfl⟩:∃g5,av5=some ⟨g5,0,none⟩:=by
     rcases I5.o.eJ.2.2 with ⟨hv,hq⟩|⟨g,cap,cur,hv,_⟩
     ·rw[Rk.o]at hq;omega
     ·rw[UR.o]at hv;injection hv with h1;exact⟨g,h1⟩
    have lU:=I5.o.eJ;rw[UR.o, <-Rk.o]at lU;have qi:=Qm base g5 cv5 0 n (List.map lS (fs++[(o.aF.o,o.cert)])) w5 lU ab (by rw[Rk.o];omega);rw[Rk.o,show 0+(fs.length+1-n)=8 from ab,List.take_zero,List.nil_append, <-List.map_drop]at qi;have TG:=O qi;have HN:=O hn;have hce:=O (show xc p.eJ o.aF.o o.cert=(fs++[(o.aF.o,o.cert)]).drop n by
     unfold xc;rw[<-Tk.o,aM,show fs.length+[(o.aF.o,o.cert)].length-8=n from bH])
    have pJ:(0:Int)<(fs.length:Int)+1-8:=ab;clear qi lU hn;go_wp2_with fail
    rw[show((fs.length:Int)+1-8)=(n:Int)from by have:=HN.o;omega];refine TG.o.mono ?_;rintro e w7⟨rfl,WR,nY⟩;clear TG d5 e5;have J_:Fr (own v5.cv) w5 w7:=nY.mono (fun k _ hk=>by rw[UR.o,show k=g5 from hk];rfl);have hP7:=cW.eJ I5.o AA5.o wJ.o WR J_ (fun k hk=>Or.inl (by rw[UR.o];exact hk));have hB5:¬own v5.cv B:=fun hb=>I5.o.fa AA5.o.eK ag (Or.inr (Or.inr hb));have anz:=J_.keep AA5.o.eK hB5
    have a7:gJ w7 B _ off v5:=AA5.o.fr J_ hB5;have d7:=a7.lQ;have e7:=a7.free (off+2);rw[UR.o]at d7;have r7:=O (eI I5.o (by obtain⟨_,_,h,_⟩:=hP7;exact h) R5.o dS ab);have HP:=O (show cW base w2 B cs off v {p with eJ:=xc p.eJ o.aF.o o.cert} _ from by
     rw[hce.o];exact gB F3.o FT3.o (gB F5.o FT5.o hP7))
    clear hP7 WR nY J_ anz a7;go_wp2_with (first|((with_reducible refine cU 46 ?_);refine aI rfl 46 (.tmp 4) (.tmp 49) rfl (w.heap.size+1) #[.int .i64 1,.string ⟨#[]⟩,.int .i64 0] rfl rfl _ bP r7.o (ba _ rfl) rfl bS ?_)|fail)
    refine aR (bj bB _ _ (w.heap.size+1) 46 #[.int .i64 1,.string ⟨#[]⟩,.int .i64 0] (0,0) _ rfl (aY _ (w.heap.size+1) _ _ _ _ r7.o) underlying46 rfl (ba _ rfl)) rfl ?_;unfold eG;rw[HR.o];exact⟨rfl,dv (HP.o.after fR.o) pS.o oH.o (bT _) r7.o eN ag _⟩
   ·have ZS:¬(8:Int)<(fs.length:Int)+1:=ab;have aqj:¬(0:Int)<(fs.length:Int)+1-8:=ab;have hce:=O (show xc p.eJ o.aF.o o.cert=fs++[(o.aF.o,o.cert)]by
     unfold xc;rw[<-Tk.o,aM,show fs.length+[(o.aF.o,o.cert)].length-8=0 from bH,eF])
    have HP:=O (show cW base w2 B cs off v {p with eJ:=xc p.eJ o.aF.o o.cert} w5 from by
     rw[hce.o];exact gB F3.o FT3.o ⟨v5,I5.o,F5.o,FT5.o,AA5.o.eK⟩)
    go_wp2_with (first|((with_reducible refine cU 46 ?_);refine aI rfl 46 (.tmp 4) (.tmp 49) rfl (w.heap.size+1) #[.int .i64 1,.string ⟨#[]⟩,.int .i64 0] rfl rfl _ bP R5.o (ba _ rfl) rfl bS ?_)|fail)
    refine aR (bj bB _ _ (w.heap.size+1) 46 #[.int .i64 1,.string ⟨#[]⟩,.int .i64 0] (0,0) _ rfl (aY _ (w.heap.size+1) _ _ _ _ R5.o) underlying46 rfl (ba _ rfl)) rfl ?_;unfold eG;rw[HR.o];exact⟨rfl,dv (HP.o.after fR.o) pS.o oH.o (bT _) R5.o eN ag _⟩
theorem US(base:Nat)(w:World)(B off:Nat)(cs:a_)(v:dn)(p:eD)(o:jI)(hs:List gT)(h:eQ base w v p)(ha:gJ w B cs off v)(oX:base<=B)(hf:gM w o hs)(hk:mT p) :
  aE 48 #[.pointer (some ⟨B,off,none⟩),.agg o.cells.toArray] w (eG base w B cs off v (rB p (o.dX hs))):=by
 have uo:B<w.heap.size:=bg ha.eK;have Fq:¬v.jS B:=h.fa ha.eK ag;obtain⟨ah,ch,gu⟩:=hf.h_;obtain⟨w2,eC⟩:∃w2,w2=(w.alloc (.cells o.cells.toArray 33)).alloc (.cells bP 46):=⟨_,rfl⟩;have dF:Fr aX w w2:=by rw[eC];exact((ae aX w).alloc _).alloc _
 have k1:w2.heap[w.heap.size]?=some (.cells o.cells.toArray 33 (0,0)):=by rw[eC];exact((ae aX _).alloc _).keep (aC _ _) id
 have k2:w2.heap[w.heap.size+1]?=some (.cells bP 46 (0,0)):=by
  have h:=aC (w.alloc (.cells o.cells.toArray 33)) (.cells bP 46);rw[bK]at h;rw[eC];exact h
 have wG:w2.heap.size=w.heap.size+2:=by rw[eC];simp
 have Up:=O (show∀U,Fr aX w2 U->U.heap[w.heap.size]?=some (.cells o.cells.toArray 33 (0,0))from fun U hU=>hU.keep k1 id);have BK:=O Fq;have HH:=O h;have HA:=O ha;have HF:=O hf;have lf:=O gu;have HK:=O hk;have fR:=O dF;have mD:=O k1;have qt:=O k2;have pS:=O (show base<=w.heap.size from ab);have wJ:=O oX;have oH:=O uo;have P8:=O eC
 obtain⟨a0,a1,a2,a3,a4,a5,a6,a7,a8,a9,jy,jz,a12,jw,jA,jb,jJ,jK,jL,jT,a20,a21⟩:=eo k1 gu;rw[eC]at a0 a1 a2 a3 a4 a5 a6 a7 a8 a9 jy jz a12 jw jA jb jJ jK jL jT a20 a21;rw[dN gu]at eC a0 a1 a2 a3 a4 a5 a6 a7 a8 a9 jy jz a12 jw jA jb jJ jK jL jT a20 a21 ⊢;unfold bP at eC a0 a1 a2 a3 a4 a5 a6 a7 a8 a9 jy jz a12 jw jA jb jJ jK jL jT a20 a21;have ow:=O eC
 obtain⟨w3,SE⟩:∃w3,w3=w2.alloc (.cells #[.bool o.aF.o.aD,.string o.aF.o.host,.int .i64 o.aF.o.port] 24):=⟨_,rfl⟩;have iG:Fr aX w2 w3:=by rw[SE];exact(ae aX w2).alloc _
 have k3:w3.heap[w2.heap.size]?=some (.cells #[.bool o.aF.o.aD,.string o.aF.o.host,.int .i64 o.aF.o.port] 24 (0,0)):=by rw[SE];exact aC _ _
 rw[wG]at k3;have il:=O (fR.o.trans iG);have QC:=O k3;have ah3:=O (Up.o w3 iG);have ade:=O (iG.keep qt.o id);have X3:=O SE;have H3:=O (HH.o.dx il.o);have HA3:=O (HA.o.dx il.o);have Qj:=HK.o.re;have MG:w3.heap.size=w.heap.size+1+1+1:=by rw[SE];simp;omega
 clear SE iG k3;clear eC gu dF k1 k2 h ha hf Fq hk;go_enter func48,ntmps48;have hx:=ow;have rN:=ow.o;cases iH:o.all
 case true =>
  rw[iH]at rN;by_cases h9:o.what=9
  ·have HR:=O (show rB p (o.dX hs)=(xR,rep 1)by
    unfold rB;rw[aB];show(o.all&&o.what==9)=true;rw[iH,h9];rfl)
   have HP:=O (cW.fresh H3.o HA3.o wJ.o);rw[MG]at HP;rw[h9]at rN;have GI:gJ ((w3.alloc (.cells #[.slice none 0 0,.slice none 0 0] 118)).alloc (.cells #[.slice none 0 0] 121)) B cs off v:=HA3.o.dx (((ae aX w3).alloc _).alloc _);have c0:=GI.cell0;have c1:=GI.gU;have c2:=GI.lQ;have f0:=GI.free off;have f1:=GI.free (off+1);have f2:=GI.free (off+2)
   have Ag:=O (um (um (um ((((ae aX w3).alloc (.cells #[.slice none 0 0,.slice none 0 0] 118)).alloc (.cells #[.slice none 0 0] 121)).keep ade.o id) (show w.heap.size+1≠B from ab) off (.pointer (some ⟨w.heap.size+1+1+1,0,none⟩))) (show w.heap.size+1≠B from ab) (off+1) (.pointer (some ⟨w.heap.size+1+1+1+1,0,none⟩))) (show w.heap.size+1≠B from ab) (off+2) (.slice none 0 0));clear GI
   go_wp2_with (first|((with_reducible refine cU 94 ?_);have MX:=hx;clear hx MX;rw[<-rN];rw[<-X3.o];generalize (w3.alloc (.cells #[.slice none 0 0,.slice none 0 0] 118)).alloc (.cells #[.slice none 0 0] 121)=W5 at *)|((with_reducible refine cU 46 ?_);refine aI rfl 46 (.tmp 4) (.tmp 24) rfl (w.heap.size+1) #[.int .i64 1,.string ⟨#[]⟩,.int .i64 0] rfl rfl _ bP Ag.o (ba _ rfl) rfl bS ?_))
   refine aR (bj bB _ _ (w.heap.size+1) 46 #[.int .i64 1,.string ⟨#[]⟩,.int .i64 0] (0,0) _ rfl (aY _ (w.heap.size+1) _ _ _ _ Ag.o) underlying46 rfl (ba _ rfl)) rfl ?_;unfold eG;rw[HR.o];exact⟨rfl,dv (HP.o.after il.o) pS.o oH.o (bT _) Ag.o eN ag _⟩
  ·have t9:(o.what==9)=false:=aL.2 h9;clear h9;have HSW:=O (show∀U,Fr aX w3 U->aE 92 #[.pointer (some ⟨v.b,0,none⟩),.agg #[.bool o.aF.o.aD,.string o.aF.o.host,.int .i64 o.aF.o.port]] U (wj base U v.b v.gv v.wv p.bZ p.waits o.aF.o)from fun U hU=>E5 base U v.b v.gv v.wv p.bZ p.waits o.aF.o ((H3.o.dx hU).oT) ab)
   have Fx:=O (show∀U,Fr (dk v.b v.gv v.wv) w3 U->(U.cell? ⟨B,off,none⟩=some (.pointer (some ⟨v.b,0,none⟩))/\U.cell? ⟨w.heap.size+2,0,none⟩=some (.bool o.aF.o.aD)/\U.cell? ⟨w.heap.size+2,1,none⟩=some (.string o.aF.o.host)/\U.cell? ⟨w.heap.size+2,2,none⟩=some (.int .i64 o.aF.o.port))from fun U hU=>by
    have j1:=HA3.o.fr hU (fun hb=>BK.o (Or.inl hb));have j2:=hU.keep QC.o (fun hb=>by
     obtain⟨c,t,e,hk⟩:=H3.o.oT.hZ hb;rw[QC.o]at e;cases e;revert hk;decide)
    exact⟨j1.cell0,by simp[World.cell?,j2]⟩)
   go_wp2_with fail
   rw[<-rN, <-X3.o];clear a0 a1 a2 a3 a4 a5 a6 a7 a8 a9 jy jz a12 jw jA jb jJ jK jL jT a20 a21 rN
   go_region_held3 (fun U=>Fr (dk v.b v.gv v.wv) w3 U/\U.cell? ⟨B,off,none⟩=some (.pointer (some ⟨v.b,0,none⟩))/\U.cell? ⟨w.heap.size+2,0,none⟩=some (.bool o.aF.o.aD)/\U.cell? ⟨w.heap.size+2,1,none⟩=some (.string o.aF.o.host)/\U.cell? ⟨w.heap.size+2,2,none⟩=some (.int .i64 o.aF.o.port)) ((refine(fun hU=>⟨hU,Fx.o _ hU⟩) ?_;first|exact aA (ae _ _)|assumption))
    ((first
     |(go_at_call 92;refine(HSW.o _ (aA (ae _ _))).mono ?_;rintro e u4 ⟨rfl,uP⟩;have adf:Fr (dk v.b v.gv v.wv) w3 u4:=(aA (ae _ _)).trans (by obtain⟨_,_,_,h,_⟩:=uP;exact h))))
   obtain⟨v4,i4,f4,Ku,UT⟩:=eR (H3.o.dx (aA (ae aX w3))) (HA3.o.dx (aA (ae aX w3))) BK.o uP;have a4:=ia HA3.o UT;have o4:=eI (H3.o.dx (aA (ae aX w3))) f4 (show w3.drew.heap[w.heap.size]?=_ from ah3.o) kX ab;have r4:=eI (H3.o.dx (aA (ae aX w3))) f4 (show w3.drew.heap[w.heap.size+1]?=_ from ade.o) dS ab;have g4:=eI (H3.o.dx (aA (ae aX w3))) f4 (show w3.drew.heap[w.heap.size+2]?=_ from QC.o) py ab
   have I4:=O i4;have F4:=O f4;have FT4:=O Ku;have AA4:=O a4;have O4:=O o4;have R4:=O r4;have G4:=O g4;obtain⟨a0,a1,a2,a3,a4,a5,a6,a7,a8,a9,jy,jz,a12,jw,jA,jb,jJ,jK,jL,jT,a20,a21⟩:=eo o4 lf.o;clear uP adf i4 f4 Ku a4 o4 r4 g4 UT Fx HSW;have HR:=O (show rB p (o.dX hs)=(vN p o.aF.o,rep 1)by
    unfold rB;rw[ay,ay]
    ·rfl
    ·show¬(o.what==9)=true;rw[t9];exact gC
    ·show¬(o.all&&o.what==9)=true;rw[t9,Bool.and_false];exact gC)
   have HP:=O (show cW base w3 B cs off v (vN p o.aF.o) u4 from cV (aA (ae aX w3)) ⟨v4,I4.o,F4.o,FT4.o,AA4.o.eK⟩);go_wp2_with (first|((with_reducible refine cU 46 ?_);refine aI rfl 46 (.tmp 4) (.tmp 43) rfl (w.heap.size+1) #[.int .i64 1,.string ⟨#[]⟩,.int .i64 0] rfl rfl _ bP R4.o (ba _ rfl) rfl bS ?_)|fail)
   refine aR (bj bB _ _ (w.heap.size+1) 46 #[.int .i64 1,.string ⟨#[]⟩,.int .i64 0] (0,0) _ rfl (aY u4 (w.heap.size+1) _ _ _ _ R4.o) underlying46 rfl (ba _ rfl)) rfl ?_;unfold eG;rw[HR.o];exact⟨rfl,dv (HP.o.after il.o) pS.o oH.o (bT _) R4.o eN ag _⟩
 case false =>
  rw[iH]at rN;have HSW:=O (show∀U,Fr aX w3 U->aE 92 #[.pointer (some ⟨v.b,0,none⟩),.agg #[.bool o.aF.o.aD,.string o.aF.o.host,.int .i64 o.aF.o.port]] U (wj base U v.b v.gv v.wv p.bZ p.waits o.aF.o)from fun U hU=>E5 base U v.b v.gv v.wv p.bZ p.waits o.aF.o ((H3.o.dx hU).oT) ab)
  have Fx:=O (show∀U,Fr (dk v.b v.gv v.wv) w3 U->(U.cell? ⟨B,off,none⟩=some (.pointer (some ⟨v.b,0,none⟩))/\U.cell? ⟨w.heap.size+2,0,none⟩=some (.bool o.aF.o.aD)/\U.cell? ⟨w.heap.size+2,1,none⟩=some (.string o.aF.o.host)/\U.cell? ⟨w.heap.size+2,2,none⟩=some (.int .i64 o.aF.o.port))from fun U hU=>by
   have j1:=HA3.o.fr hU (fun hb=>BK.o (Or.inl hb));have j2:=hU.keep QC.o (fun hb=>by
    obtain⟨c,t,e,hk⟩:=H3.o.oT.hZ hb;rw[QC.o]at e;cases e;revert hk;decide)
   exact⟨j1.cell0,by simp[World.cell?,j2]⟩)
  go_wp2_with fail
  rw[<-rN, <-X3.o];clear a0 a1 a2 a3 a4 a5 a6 a7 a8 a9 jy jz a12 jw jA jb jJ jK jL jT a20 a21 rN
  go_region_held3 (fun U=>Fr (dk v.b v.gv v.wv) w3 U/\U.cell? ⟨B,off,none⟩=some (.pointer (some ⟨v.b,0,none⟩))/\U.cell? ⟨w.heap.size+2,0,none⟩=some (.bool o.aF.o.aD)/\U.cell? ⟨w.heap.size+2,1,none⟩=some (.string o.aF.o.host)/\U.cell? ⟨w.heap.size+2,2,none⟩=some (.int .i64 o.aF.o.port)) ((refine(fun hU=>⟨hU,Fx.o _ hU⟩) ?_;first|exact aA (ae _ _)|assumption))
   ((first
    |(go_at_call 92;refine(HSW.o _ (aA (ae _ _))).mono ?_;rintro e u4 ⟨rfl,uP⟩;have adf:Fr (dk v.b v.gv v.wv) w3 u4:=(aA (ae _ _)).trans (by obtain⟨_,_,_,h,_⟩:=uP;exact h))))
  obtain⟨v4,i4,f4,Ku,UT⟩:=eR (H3.o.dx (aA (ae aX w3))) (HA3.o.dx (aA (ae aX w3))) BK.o uP;have a4:=ia HA3.o UT;have o4:=eI (H3.o.dx (aA (ae aX w3))) f4 (show w3.drew.heap[w.heap.size]?=_ from ah3.o) kX ab;have r4:=eI (H3.o.dx (aA (ae aX w3))) f4 (show w3.drew.heap[w.heap.size+1]?=_ from ade.o) dS ab;have g4:=eI (H3.o.dx (aA (ae aX w3))) f4 (show w3.drew.heap[w.heap.size+2]?=_ from QC.o) py ab
  have I4:=O i4;have F4:=O f4;have FT4:=O Ku;have AA4:=O a4;have O4:=O o4;have R4:=O r4;have G4:=O g4;obtain⟨a0,a1,a2,a3,a4,a5,a6,a7,a8,a9,jy,jz,a12,jw,jA,jb,jJ,jK,jL,jT,a20,a21⟩:=eo o4 lf.o;clear uP adf i4 f4 Ku a4 o4 r4 g4 UT Fx HSW;by_cases h9:o.what=9
  ·have t9:(o.what==9)=true:=by rw[h9];rfl
   clear h9;have HR:=O (show rB p (o.dX hs)=(Mh p o.aF.o,rep 1)by
    unfold rB;rw[ay,aB]
    ·rfl
    ·show(o.what==9)=true;exact t9
    ·show¬(o.all&&o.what==9)=true;rw[iH,kl];exact gC)
   have tF:=O (show∀U,Fr aX u4 U->aE 93 #[.pointer (some ⟨v4.k,0,none⟩),.agg #[.bool o.aF.o.aD,.string o.aF.o.host,.int .i64 o.aF.o.port]] U (tD base U v4.k v4.kv p.book (ep.vM o.aF.o))from fun U hU=>Mm base U v4.k v4.kv p.book o.aF.o ((I4.o.dx hU).book) ab)
   have Fx:=O (show∀U,Fr (ik v4.k v4.kv) u4 U->(U.cell? ⟨B,off+1,none⟩=some (.pointer (some ⟨v4.k,0,none⟩))/\U.cell? ⟨w.heap.size+2,0,none⟩=some (.bool o.aF.o.aD)/\U.cell? ⟨w.heap.size+2,1,none⟩=some (.string o.aF.o.host)/\U.cell? ⟨w.heap.size+2,2,none⟩=some (.int .i64 o.aF.o.port))from fun U hU=>by
    have j1:=AA4.o.fr hU (fun hb=>I4.o.fa AA4.o.eK ag (Or.inr (Or.inl hb)));have j2:=hU.keep G4.o (fun hb=>I4.o.fa G4.o py (Or.inr (Or.inl hb)));exact⟨j1.gU,by simp[World.cell?,j2]⟩)
   go_wp2_with fail
   clear a0 a1 a2 a3 a4 a5 a6 a7 a8 a9 jy jz a12 jw jA jb jJ jK jL jT a20 a21
   go_region_held3 (fun U=>Fr (ik v4.k v4.kv) u4 U/\U.cell? ⟨B,off+1,none⟩=some (.pointer (some ⟨v4.k,0,none⟩))/\U.cell? ⟨w.heap.size+2,0,none⟩=some (.bool o.aF.o.aD)/\U.cell? ⟨w.heap.size+2,1,none⟩=some (.string o.aF.o.host)/\U.cell? ⟨w.heap.size+2,2,none⟩=some (.int .i64 o.aF.o.port)) ((refine(fun hU=>⟨hU,Fx.o _ hU⟩) ?_;first|exact aA (ae _ _)|assumption))
    ((first
     |(go_at_call 93;refine(tF.o _ (aA (ae _ _))).mono ?_;rintro e u5 ⟨rfl,D6⟩;have anA:Fr (ik v4.k v4.kv) u4 u5:=(aA (ae _ _)).trans (by obtain⟨_,_,h,_⟩:=D6;exact h))))
   obtain⟨v5,i5,f5,Kt,UQ⟩:=oF (I4.o.dx (aA (ae aX u4))) (AA4.o.dx (aA (ae aX u4))) (I4.o.fa AA4.o.eK ag) D6;have a5:=ia AA4.o UQ;have r5:=eI (I4.o.dx (aA (ae aX u4))) f5 (show u4.drew.heap[w.heap.size+1]?=_ from R4.o) dS ab;have g5:=eI (I4.o.dx (aA (ae aX u4))) f5 (show u4.drew.heap[w.heap.size+2]?=_ from G4.o) py ab;have DR:=O (Ks base u5 B off _ v5 _ o.aF.o i5 a5 wJ.o)
   have l0:u5.cell? ⟨w.heap.size+2,0,none⟩=some (.bool o.aF.o.aD):=by simp[World.cell?,g5]
   have l1:u5.cell? ⟨w.heap.size+2,1,none⟩=some (.string o.aF.o.host):=by simp[World.cell?,g5]
   have l2:u5.cell? ⟨w.heap.size+2,2,none⟩=some (.int .i64 o.aF.o.port):=by simp[World.cell?,g5]
   have I5:=O i5;have F5:=O f5;have FT5:=O Kt;have R5:=O r5;unfold gz.cells at DR;clear D6 anA i5 f5 Kt a5 r5 g5 UQ Fx tF;go_wp2_with fail
   refine DR.o.mono ?_;rintro e u6⟨rfl,Zu⟩;have Hi:=O (show u6.heap[w.heap.size+1]?=_ from eI I5.o (by obtain⟨_,_,h,_⟩:=Zu;exact h) R5.o dS ab);have HP:=O (show cW base w3 B cs off v (Mh p o.aF.o) u6 from cV (aA (ae aX w3)) (gB F4.o FT4.o (cV (aA (ae aX u4)) (gB F5.o FT5.o Zu))));clear DR Zu l0 l1 l2
   go_wp2_with (first|((with_reducible refine cU 46 ?_);refine aI rfl 46 (.tmp 4) (.tmp 43) rfl (w.heap.size+1) #[.int .i64 1,.string ⟨#[]⟩,.int .i64 0] rfl rfl _ bP Hi.o (ba _ rfl) rfl bS ?_)|fail)
   refine aR (bj bB _ _ (w.heap.size+1) 46 #[.int .i64 1,.string ⟨#[]⟩,.int .i64 0] (0,0) _ rfl (aY u6 (w.heap.size+1) _ _ _ _ Hi.o) underlying46 rfl (ba _ rfl)) rfl ?_;unfold eG;rw[HR.o];exact⟨rfl,dv (HP.o.after il.o) pS.o oH.o (bT _) Hi.o eN ag _⟩
  ·have t9:(o.what==9)=false:=aL.2 h9;clear h9;have HR:=O (show rB p (o.dX hs)=(vN p o.aF.o,rep 1)by
    unfold rB;rw[ay,ay]
    ·rfl
    ·show¬(o.what==9)=true;rw[t9];exact gC
    ·show¬(o.all&&o.what==9)=true;rw[t9,Bool.and_false];exact gC)
   have HP:=O (show cW base w3 B cs off v (vN p o.aF.o) u4 from cV (aA (ae aX w3)) ⟨v4,I4.o,F4.o,FT4.o,AA4.o.eK⟩);go_wp2_with (first|((with_reducible refine cU 46 ?_);refine aI rfl 46 (.tmp 4) (.tmp 43) rfl (w.heap.size+1) #[.int .i64 1,.string ⟨#[]⟩,.int .i64 0] rfl rfl _ bP R4.o (ba _ rfl) rfl bS ?_)|fail)
   refine aR (bj bB _ _ (w.heap.size+1) 46 #[.int .i64 1,.string ⟨#[]⟩,.int .i64 0] (0,0) _ rfl (aY u4 (w.heap.size+1) _ _ _ _ R4.o) underlying46 rfl (ba _ rfl)) rfl ?_;unfold eG;rw[HR.o];exact⟨rfl,dv (HP.o.after il.o) pS.o oH.o (bT _) R4.o eN ag _⟩
theorem QE(o:jx):(dV o).1=0\/(dV o).1=1\/(dV o).1=4\/(dV o).1=7\/(dV o).1=8\/(dV o).1=10:=by
 unfold dV;split
 ·split
  ·simp
  ·split
   ·simp
   ·split
    ·simp
    ·split
     ·simp
     ·split
      ·simp
      ·split<;>simp
 ·simp
theorem nk.take{f:ed}(h:nk x)(g:nk f)(part:Int)(c:Nat):nk (lu x f part c):=by
 unfold lu;split
 ·refine⟨⟨fun k=>?_,?_⟩,fun k=>?_,fun k=>?_⟩
  ·show mT (if k=part.toNat then uu c (x.part k) (f.part k)else x.part k);have a:=h.ok.part k;have b:=g.ok.part k;split
   ·unfold uu;cases c.testBit 0<;>cases c.testBit 1<;>cases c.testBit 2<;>exact⟨by first|exact a.uniq|exact b.uniq,by first|exact a.nat|exact b.nat,by first|exact a.re.1|exact b.re.1,by first|exact a.re.2.1|exact b.re.2.1,by first|exact a.re.2.2.1|exact b.re.2.2.1,by first|exact a.re.2.2.2|exact b.re.2.2.2⟩
   ·exact a
  ·show 0<=(if c.testBit 3=true then f.now else x.now)/\(if c.testBit 3=true then f.now else x.now)<=1099511627776;split
   ·exact g.ok.now
   ·exact h.ok.now
  ·show rC (if k=part.toNat then uu c (x.part k) (f.part k)else x.part k);have a:=h.sm k;have b:=g.sm k;split
   ·unfold uu;cases c.testBit 0<;>exact⟨by first|exact a.bZ|exact b.bZ,by first|exact a.waits|exact b.waits⟩
   ·exact a
  ·show mj (if k=part.toNat then uu c (x.part k) (f.part k)else x.part k);have a:=h.path k;have b:=g.path k;split
   ·unfold uu;cases c.testBit 0
    ·exact fun y hy=>a y hy
    ·exact fun y hy=>b y hy
   ·exact a
 ·exact h
def M6(n i:Nat):dn:=⟨n+1+2*i,.slice none 0 0,.slice none 0 0,n+2+2*i,.slice none 0 0,.slice none 0 0⟩
def YS(n k i:Nat):a_:=if i<k then(M6 n i).cells else [.pointer none,.pointer none,.slice none 0 0]
def QO(n k:Nat):a_:=YS n k 0++(YS n k 1++(YS n k 2++(YS n k 3++[.int .i64 0])))
structure Dx (w:World) (k:Nat) (W:World):Prop where
 fr:Fr aX w W
 eK:W.heap[w.heap.size]?=some (.cells (QO w.heap.size k).toArray 97 (0,0))
 oT:∀i,i<k->W.heap[w.heap.size+1+2*i]?=some (.cells #[.slice none 0 0,.slice none 0 0] 118 (0,0))
 book:∀i,i<k->W.heap[w.heap.size+2+2*i]?=some (.cells #[.slice none 0 0] 121 (0,0))
 size:W.heap.size=w.heap.size+1+2*k
theorem QP(n k:Nat)(hk:k<4):(((QO n k).set (k*3) (.pointer (some ⟨n+1+2*k,0,none⟩))).set (k*3+1) (.pointer (some ⟨n+2+2*k,0,none⟩))).set (k*3+2) (.slice none 0 0)=QO n (k+1):=by
 match k,hk with
 |0,_=>rfl
 |1,_=>rfl
 |2,_=>rfl
 |3,_=>rfl
theorem Dx.step(h:Dx w k W)(hk:k<4):Dx w (k+1) (((((W.alloc (.cells #[.slice none 0 0,.slice none 0 0] 118)).alloc (.cells #[.slice none 0 0] 121)).setCell ⟨w.heap.size,k*3,none⟩ (.pointer (some ⟨W.heap.size,0,none⟩))).setCell ⟨w.heap.size,k*3+1,none⟩ (.pointer (some ⟨W.heap.size+1,0,none⟩))).setCell ⟨w.heap.size,k*3+2,none⟩ (.slice none 0 0)):=by
 obtain⟨V,hV⟩:∃V,V=(W.alloc (.cells #[.slice none 0 0,.slice none 0 0] 118)).alloc (.cells #[.slice none 0 0] 121):=⟨_,rfl⟩;have hf:Fr aX W V:=by rw[hV];exact((ae aX W).alloc _).alloc _
 have wY:V.heap[W.heap.size]?=some (.cells #[.slice none 0 0,.slice none 0 0] 118 (0,0)):=by rw[hV];exact((ae aX _).alloc _).keep (aC _ _) id
 have LN:V.heap[W.heap.size+1]?=some (.cells #[.slice none 0 0] 121 (0,0)):=by
  have h:=aC (W.alloc (.cells #[.slice none 0 0,.slice none 0 0] 118)) (.cells #[.slice none 0 0] 121);rw[bK]at h;rw[hV];exact h
 have hvs:V.heap.size=W.heap.size+2:=by rw[hV];simp
 rw[<-hV];have pG:=hf.keep h.eK id;have DM:Fr (one w.heap.size) V (((V.setCell ⟨w.heap.size,k*3,none⟩ (.pointer (some ⟨W.heap.size,0,none⟩))).setCell ⟨w.heap.size,k*3+1,none⟩ (.pointer (some ⟨W.heap.size+1,0,none⟩))).setCell ⟨w.heap.size,k*3+2,none⟩ (.slice none 0 0)) :=
  (((ae (one w.heap.size) V).setCell (p:=⟨w.heap.size,k*3,none⟩) (fun _=>rfl) _).setCell (p:=⟨w.heap.size,k*3+1,none⟩) (fun _=>rfl) _).setCell (p:=⟨w.heap.size,k*3+2,none⟩) (fun _=>rfl) _
 have e1:=cg pG (k*3) (.pointer (some ⟨W.heap.size,0,none⟩));have e2:=cg e1 (k*3+1) (.pointer (some ⟨W.heap.size+1,0,none⟩));have e3:=cg e2 (k*3+2) (.slice none 0 0);have xl:=h.size;have N1:=QP w.heap.size k hk;rw[show w.heap.size+1+2*k=W.heap.size from ab,show w.heap.size+2+2*k=W.heap.size+1 from ab]at N1;refine⟨?_,?_,fun i hi=>?_,fun i hi=>?_,?_⟩
 ·exact(((h.fr.trans hf).gI (p:=⟨w.heap.size,k*3,none⟩) (az _) _).gI (p:=⟨w.heap.size,k*3+1,none⟩) (az _) _).gI (p:=⟨w.heap.size,k*3+2,none⟩) (az _) _
 ·rw[e3, <-N1];simp
 ·refine DM.keep ?_ (fun e=>by have e':w.heap.size+1+2*i=w.heap.size:=e;omega);by_cases KP:i<k
  ·exact hf.keep (h.oT i KP) id
  ·rw[show w.heap.size+1+2*i=W.heap.size from ab];exact wY
 ·refine DM.keep ?_ (fun e=>by have e':w.heap.size+2+2*i=w.heap.size:=e;omega);by_cases KP:i<k
  ·exact hf.keep (h.book i KP) id
  ·rw[show w.heap.size+2+2*i=W.heap.size+1 from ab];exact LN
 ·have e:(((V.setCell ⟨w.heap.size,k*3,none⟩ (.pointer (some ⟨W.heap.size,0,none⟩))).setCell ⟨w.heap.size,k*3+1,none⟩ (.pointer (some ⟨W.heap.size+1,0,none⟩))).setCell ⟨w.heap.size,k*3+2,none⟩ (.slice none 0 0)).heap.size=V.heap.size:=by simp[World.setCell]
  rw[e];omega
theorem Dx.done(h:Dx w 4 W)(hb:base<=w.heap.size):di base W w.heap.size (M6 w.heap.size) Gw:=by
 refine⟨hb,h.eK,fun i hi=>⟨⟨?_,h.oT i hi,⟨[],dp _ _ _ _,.nil⟩,⟨[],dp _ _ _ _,.nil⟩⟩,⟨?_,h.book i hi,dp _ _ _ _⟩,dp _ _ _ _⟩,fun i j hi hj OS k hk Xo=>?_⟩
 ·show base<=w.heap.size+1+2*i;omega
 ·show base<=w.heap.size+2+2*i;omega
 ·have key:∀a,(M6 w.heap.size a).jS k->k=w.heap.size+1+2*a\/k=w.heap.size+2+2*a:=by
   rintro a(q|q|q)
   ·rcases q with q|q|q
    ·exact Or.inl q
    ·simp[M6,own,Value.ownBlock]at q
    ·simp[M6,own,Value.ownBlock]at q
   ·rcases q with q|q
    ·exact Or.inr q
    ·simp[M6,own,Value.ownBlock]at q
   ·simp[M6,own,Value.ownBlock]at q
  have h1:=key i hk;have h2:=key j Xo;omega
def aid(w:World)(t:Value)(wr:World):Prop:=∃k:Nat,k<=4/\t=.int .i64 k/\Dx w k wr
theorem YT(w:World):aE 32 #[] w fun e w'=>∃B pv,e=.returned (.pointer (some ⟨B,0,none⟩))/\(∀base,base<=w.heap.size->di base w' B pv Gw)/\Fr aX w w':=by
 have h0:Dx w 0 (w.alloc (.cells #[.pointer none,.pointer none,.slice none 0 0,.pointer none,.pointer none,.slice none 0 0,.pointer none,.pointer none,.slice none 0 0,.pointer none,.pointer none,.slice none 0 0,.int .i64 0] 97)) :=
  ⟨(ae aX w).alloc _,aC _ _,fun i hi=>absurd hi (ct i),fun i hi=>absurd hi (ct i),aS⟩
 have H0:=O h0;clear h0;go_enter func32,ntmps32;go_wp2_with fail
 go_loopw[5] (aid w) (fun i _=>4-(intOf i).toNat)
 case atStart=>exact⟨0,aW _,rfl,H0.o⟩
 case round =>
  obtain⟨k,hk,rfl,hn⟩:=hrel;by_cases fE:k<4
  ·have qm:(k:Int)<4:=ab;have HN:=O (hn.step fE);have hb:=hn.eK;have A1:w.heap.size<wr.heap.size:=bg hb;have T6:¬(k:Int)<0:=ab;have amM:(0:Int)<=(k:Int):=ab;have KB:=(((ae aX wr).alloc (.cells #[.slice none 0 0,.slice none 0 0] 118)).alloc (.cells #[.slice none 0 0] 121)).keep hb id
   obtain⟨q0,q1,q2⟩:(QO w.heap.size k)[k*3]?=some (.pointer none)/\(QO w.heap.size k)[k*3+1]?=some (.pointer none)/\(QO w.heap.size k)[k*3+2]?=some (.slice none 0 0):=by
    match k,fE with
    |0,_=>exact⟨rfl,rfl,rfl⟩
    |1,_=>exact⟨rfl,rfl,rfl⟩
    |2,_=>exact⟨rfl,rfl,rfl⟩
    |3,_=>exact⟨rfl,rfl,rfl⟩
   have c0:((wr.alloc (.cells #[.slice none 0 0,.slice none 0 0] 118)).alloc (.cells #[.slice none 0 0] 121)).cell? ⟨w.heap.size,k*3,none⟩=some (.pointer none):=by simp[World.cell?,KB,q0]
   have c1:((wr.alloc (.cells #[.slice none 0 0,.slice none 0 0] 118)).alloc (.cells #[.slice none 0 0] 121)).cell? ⟨w.heap.size,k*3+1,none⟩=some (.pointer none):=by simp[World.cell?,KB,q1]
   have c2:((wr.alloc (.cells #[.slice none 0 0,.slice none 0 0] 118)).alloc (.cells #[.slice none 0 0] 121)).cell? ⟨w.heap.size,k*3+2,none⟩=some (.slice none 0 0):=by simp[World.cell?,KB,q2]
   have f0:∀j,((wr.alloc (.cells #[.slice none 0 0,.slice none 0 0] 118)).alloc (.cells #[.slice none 0 0] 121)).frozen? ⟨w.heap.size,j,none⟩=false:=fun j=>by simp[World.frozen?,KB]
   have f1:=f0 (k*3);have f2:=f0 (k*3+1);have f3:=f0 (k*3+2);have hx:=HN;clear hn H0 KB q0 q1 q2 f0 hb;go_wp2_with (first|((with_reducible refine cU 94 ?_);have MX:=hx;clear hx MX;generalize (wr.alloc (.cells #[.slice none 0 0,.slice none 0 0] 118)).alloc (.cells #[.slice none 0 0] 121)=W5 at *)|fail)
   go_roundw
   case rel=>exact⟨k+1,ab,bh,HN.o⟩
   case measure=>simp[intOf];omega
  ·have I7:k=4:=ab;subst I7;have HD:=O (fun base hb=>hn.done (base:=base) hb);have ue:=O hn.fr;clear hn H0;go_wp2;go_ret;exact⟨_,_,rfl,HD.o,ue.o⟩
theorem mV(t:iI)(n:Nat)(x:vR):(t.put n x).tab n=x:=by unfold iI.put;simp
theorem G1(t:iI)(x:vR)(h:m≠n):(t.put n x).tab m=t.tab m:=by unfold iI.put;simp[h]
theorem Vf(t:iI)(n:Nat)(r:kq)(h:m≠n):(iZ t n r).tab m=t.tab m:=by unfold iZ;simp[h]
theorem G2(t:iI)(n:Nat)(r:kq):(iZ t n r).tab n=ib:=by unfold iZ;simp
structure MvV where
 kind:Int
 tab:Int
 o:jI
 hs:List gT
