/- Lemmas for the law's walk. -/
import Derived.Test.YtnckmcnffadjoaaGreatDoorPk15
import Derived.Great.BuildSlice
import Derived.Deep.Onto
set_option maxRecDepth 100000
set_option maxHeartbeats 16000000
set_option linter.unusedSimpArgs false
namespace Go.Proofs.YtnckmcnffadjoaaGreatDoor
open Go.Proofs.Tryz
open Go.RowKit
variable {n k b b' base:Nat} {w W:World} {v:Value} {xs:dh} {hs:List ig} {x:dD}
theorem dn.dJ{base:Nat}{w1 w2:World}{B off:Nat}{cs:aZ}{v:cY}{p:dR}{YL:Value}{l:List (gG×Int)}(h:eV base w1 v p)(ha:gY w1 B cs off v)(oM:base<=B)(ho:OwnRows base 97 4 w2 YL (l.map lB))(hf:Fr (own v.cv) w1 w2)(cW:∀k,own YL k->own v.cv k\/w1.heap.size<=k) :
  dn base w1 B cs off v {p with dJ:=l} (w2.setCell ⟨B,off+2,none⟩ YL):=by
 have hB:¬v.kn B:=h.fq ha.eN ag;have qm:=hf.keep ha.eN (fun hb=>hB (Or.inr (Or.inr hb)));have nd:sG base w1 (own v.cv):=fun k hk hl=>h.off k (Or.inr (Or.inr hk)) hl;have kR:Fr (one B) w2 (w2.setCell ⟨B,off+2,none⟩ YL):=(ae (one B) w2).setCell (p:=⟨B,off+2,none⟩) (fun _=>rfl) _;have aqo:sG base w2 (one B):=by
  rintro k rfl _;exact⟨oM,fun c f e=>by rw[qm]at e;cases e⟩
 have vd:B<w1.heap.size:=bq ha.eN;have p2:dH base w2 v.b v.gv v.wv p.bG p.waits:=h.oK.fr hf nd (fun hb=>h.xC (Or.inl rfl) hb) (fun k hk hb=>h.xC (Or.inr (Or.inl hk)) hb) (fun k hk hb=>h.xC (Or.inr (Or.inr hk)) hb);have p3:eU base w2 v.k v.kv p.book:=h.book.fr hf (fun k hk hb=>h.Hf hk hb);refine⟨⟨v.b,v.gv,v.wv,v.k,v.kv,YL⟩,⟨p2.fr kR aqo ?_ ?_ ?_,p3.fr kR ?_,ho.fr kR ?_⟩,?_,?_,?_⟩
 ·intro e;exact hB (Or.inl (by rw[<-show v.b=B from e];exact Or.inl rfl))
 ·intro k hk e;exact hB (Or.inl (by rw[<-show k=B from e];exact Or.inr (Or.inl hk)))
 ·intro k hk e;exact hB (Or.inl (by rw[<-show k=B from e];exact Or.inr (Or.inr hk)))
 ·intro k hk e;exact hB (Or.inr (Or.inl (by rw[<-show k=B from e];exact hk)))
 ·intro k hk e;have e':k=B:=e;subst e';rcases cW k hk with h1|h1
  ·exact hB (Or.inr (Or.inr h1))
  ·omega
 ·exact(show Fr (Au B v) w1 w2 from hf.mono (fun k _ hk=>Or.inr (Or.inr (Or.inr hk)))).setCell (p:=⟨B,off+2,none⟩) (fun _=>Or.inl rfl) _
 ·rintro k(hk|hk|hk)
  ·exact Or.inl (Or.inl hk)
  ·exact Or.inl (Or.inr (Or.inl hk))
  ·rcases cW k hk with h1|h1
   ·exact Or.inl (Or.inr (Or.inr h1))
   ·exact Or.inr h1
 ·have e:=cq qm (off+2) YL;rw[e];have e2:pB cs off ⟨v.b,v.gv,v.wv,v.k,v.kv,YL⟩=cs.set (off+2) YL:=by
   have:=xE ha.c0 ha.c1 ha.c2;unfold pB at this ⊢;simp only;have h3:(cs.set off (.pointer (some ⟨v.b,0,none⟩))).set (off+1) (.pointer (some ⟨v.k,0,none⟩))=cs:=by
    apply js;intro i;by_cases h1:i=off+1
    ·subst h1;rw[List.getElem?_set_self (by simp;exact(List.getElem?_eq_some_iff.1 ha.c1).1),ha.c1]
    rw[List.getElem?_set_ne (lj h1)];by_cases h0:i=off
    ·subst h0;rw[List.getElem?_set_self (List.getElem?_eq_some_iff.1 ha.c0).1,ha.c0]
    rw[List.getElem?_set_ne (lj h0)]
   rw[h3]
  rw[e2];simp
theorem Jz(o:gG)(l:List (gG×Int)):(l.map lB).filter (fun x=>!QD o x)=(LX o l).map lB:=by
 unfold LX;rw[List.filter_map];rfl
theorem Hy(c:gG×Int):∀u∈lB c,u.oneCell'=true:=by
 intro u hu;unfold lB at hu;simp only[bC,cA,dY]at hu;rcases hu with rfl|rfl|rfl|rfl<;>rfl
theorem Pg(c:gG×Int)(o:gG)(bo:Nat)(w:World)(ho:w.heap[bo]?=some (.cells #[.bool o.aG,.string o.host,.int .i64 o.port] 32 (0,0))) :
  aB 142 #[.agg (lB c).toArray,.pointer (some ⟨bo,0,none⟩)] w fun e w'=>e=.returned (.bool (QD o (lB c)))/\Fr aS w w':=by
 have hC:=O (show QD o (lB c)=c.1.lz o from rfl);have heq:=jG c.1 o;rw[hC.o];unfold lB;have gX:Fr aS w _:=(ae aS w).alloc (.cells #[.bool c.1.aG,.string c.1.host,.int .i64 c.1.port,.int .i64 c.2] 97);have rk:=O (gX.keep ho id);clear hC ho;go_enter func142,ntmps142;go_wp2_with (first|((with_reducible refine dr 6 ?_);refine aI rfl 32 (.tmp 1) rfl bo rfl _ _ (0,0) _ rk.o underlying32 rfl af ?_)|fail)
 go_ret;exact⟨rfl,gX⟩
theorem MH(base:Nat)(w:World)(B off:Nat)(cs:aZ)(v:cY)(p:dR)(o:gG)(h:eV base w v p)(ha:gY w B cs off v)(oM:base<=B) :
  aB 68 #[.pointer (some ⟨B,off,none⟩),.agg o.cells.toArray] w fun e w'=>e=.returned (.tuple #[])/\dn base w B cs off v {p with dJ:=LX o p.dJ} w':=by
 unfold gG.cells;have pq:Fr aS w (w.alloc (.cells #[.bool o.aG,.string o.host,.int .i64 o.port] 32)):=(ae aS w).alloc _;have hbo:=aC w (.cells #[.bool o.aG,.string o.host,.int .i64 o.port] 32);have h1:=h.dm pq;have ha1:=ha.dm pq;have vd:B<w.heap.size:=bq ha.eN;have xY:∀k,own v.cv k->k<w.heap.size:=fun k hk=>h.jq (Or.inr (Or.inr hk))
 have hd:=F2 base 142 #[.pointer (some ⟨w.heap.size,0,none⟩)] (QD o) v.cv (p.dJ.map lB) _ call142 (fun x hx u hu=>by
  obtain⟨c,_,rfl⟩:=bZ.1 hx;exact Pg c o w.heap.size u (hu.keep hbo (fun hk=>by have:=xY _ hk;omega))) h1.dJ
 rw[Jz,ai]at hd;have c2:=ha1.mg;have f2:=ha1.free (off+2);obtain⟨av,cv,hcv⟩:=h1.dJ.form;rw[ai]at hcv;rw[hcv]at c2 hd;have xO:=O hcv;have HD:=O hd;have H1:=O h1;have HA1:=O ha1;have YK:=O pq;have Ho:¬v.kn B:=h.fq ha.eN ag;have Da:=O Ho;clear h ha hbo h1 ha1 hd hcv pq Ho f2 xY;go_enter func68,ntmps68;go_wp2_with fail
 refine HD.o.mono ?_;rintro e w2⟨a2,c2',rfl,rk,dE,fG⟩;rw[<-xO.o]at dE fG;have HP:=O (dn.dJ H1.o HA1.o oM rk dE (fun k hk=>Or.inl (by rw[<-fG];exact hk)));have Xh:=dE.keep HA1.o.eN (fun hb=>Da.o (Or.inr (Or.inr hb)));have d2:w2.cell? ⟨B,off+2,none⟩=some (.slice av p.dJ.length cv):=by
  have e:=HA1.o.c2;rw[xO.o]at e;simp[World.cell?,Xh,e]
 have e2:w2.frozen? ⟨B,off+2,none⟩=false:=by simp[World.frozen?,Xh]
 clear HD c2 rk dE fG Xh;go_wp2;go_end0;exact⟨rfl,HP.o.after YK.o⟩
theorem yn{P:Program}{ops:Array Oper}{rest:List Oper}{o:Oper}{a:Act}{w:World}{Q:Exit->Act->World->Prop}(hg:o.guard=none)(t e:TypeId)(len:Nat)(parts:Array (Nat×Operand))(ho:o.op=.buildSlice t len parts)(dst:Option Tmp)(Pw:o.dst=dst)
  (cells:bT)(ie:TypeInfo)(z:Value)(vs:List (Nat×Value))(he:(parts.map fun(i,x)=>(i,a.eval x)).toList=vs)
  (hu:P.underlying t=some (.slice e))(Xu:P.info? e=some ie)(hz:ie.zero=some z)(Iz:¬len*ie.size>2^24)(qq:¬len*ie.size=0)
  (hf:Instr.fill (fun i=>some (i*ie.size,ie.size)) ((Array.range (len*ie.size)).map (z.cells[· %z.cells.size]!)) vs=some cells)(N:Nat)(hN:w.heap.size=N)
  (h:wpList P ops Q rest (a.put dst (.slice (some ⟨N,0,none⟩) len len)) (w.alloc (.cells cells e))):wpList P ops Q (o :: rest) a w:=by
 subst Pw hN;exact wpList_buildSlice hg t e len parts ho cells ie z hu Xu hz Iz qq (by rw[he];exact hf) h
theorem XV:(prog.info? 41).map (fun i=>(i.zero,i.size,i.bytes))=some (some (.agg zOp),22,272):=af
theorem af_(o:jO)(ah:eO)(nh ch:Nat):Instr.fill (fun i=>some (i*22,22)) ((Array.range (1*22)).map ((Value.agg zOp).cells[· %(Value.agg zOp).cells.size]!)) [(0,.agg #[.int .i64 o.what,.int .i64 o.aN.part,.bool o.aN.dt.aG,.string o.aN.dt.host,.int .i64 o.aN.dt.port,.bool o.aN.o.aG,.string o.aN.o.host,.int .i64 o.aN.o.port,.string o.aN.path,.string o.aN.query,.string o.aN.method,.slice ah nh ch,.bool o.aN.f_,.string o.aN.body,.bool o.proxy,.string o.text,.string o.user,.string o.pass,.string o.bS,.int .i64 o.cert,.bool o.all,.int .i64 o.n])]=some #[.int .i64 o.what,.int .i64 o.aN.part,.bool o.aN.dt.aG,.string o.aN.dt.host,.int .i64 o.aN.dt.port,.bool o.aN.o.aG,.string o.aN.o.host,.int .i64 o.aN.o.port,.string o.aN.path,.string o.aN.query,.string o.aN.method,.slice ah nh ch,.bool o.aN.f_,.string o.aN.body,.bool o.proxy,.string o.text,.string o.user,.string o.pass,.string o.bS,.int .i64 o.cert,.bool o.all,.int .i64 o.n]:=af
theorem af'(o:jO){ah:eO}{ch:Nat}(hh:o.aN.eB=.slice ah n ch):∀u∈o.cells,u.oneCell'=true:=by
 unfold jO.cells gC.cells;rw[hh];intro u hu;simp only[List.cons_append,List.nil_append,bC,cA,dY]at hu;rcases hu with rfl|rfl|rfl|rfl|rfl|rfl|rfl|rfl|rfl|rfl|rfl|rfl|rfl|rfl|rfl|rfl|rfl|rfl|rfl|rfl|rfl|rfl<;>rfl
def sF(o:jO×List ig):Bool:=!oC o.1.aN o.2||decide ((900:Int)<(o.1.aN.body.size:Int)+(o.1.text.size:Int)+(o.1.user.size:Int)+(o.1.pass.size:Int)+(o.1.bS.size:Int))
def Fj(os:List (jO×List ig)):Bool:=decide (os.length<=30)&&!(os.any sF)
theorem dZ.det{ys:dh}(h:dZ k w v xs)(h':dZ k w v ys):xs=ys:=by
 obtain⟨o1,h1⟩:=h;obtain⟨o2,h2⟩:=h';rcases h1 with ⟨a,c,hv,hs,_⟩|⟨bk,o,c,hv,_,_,_,h4⟩<;>rcases h2 with ⟨a',c',sL,SX,_⟩|⟨I8,o',c',sL,_,_,_,h4'⟩
 ·rw[hs,SX]
 ·rw[hv]at sL;injection sL with _ e _
  rw[hs];exact(dK.1 e.symm).symm
 ·rw[hv]at sL;injection sL with _ e _
  rw[SX];exact dK.1 e
 ·rw[hv]at sL;injection sL with ea e _
  injection ea with ea
  injection ea with e1 e2
  subst e1 e2;refine List.ext_getElem e (fun j hj hj'=>?_);have lx:=(o1 _ (bO hj)).1;have ly:=(o2 _ (bO hj')).1;refine List.ext_getElem (lx.trans ly.symm) (fun i hi hi'=>?_);have q:=h4 j _ (List.getElem?_eq_getElem hj) i _ (List.getElem?_eq_getElem hi);have q':=h4' j _ (List.getElem?_eq_getElem hj') i _ (List.getElem?_eq_getElem hi');rw[q]at q';injection q'
theorem X0{SX:List ig}(h:hs.map ig.cells=SX.map ig.cells):hs=SX:=by
 have:=ar (List.map Q4) h;rw[iv,iv]at this;have e:∀l:List ig,l.map (Q4 ∘ ig.cells)=l:=fun l=>by
  induction l with
  |nil=>rfl
  |cons p l ih=>rw[cF,ih];rfl
 rw[e,e]at this;exact this
theorem jO.TA{o o':jO}(h:o.cells=o'.cells):o=o':=by
 obtain⟨a,⟨b,⟨c1,c2,c3⟩,⟨d1,d2,d3⟩,e1,e2,e3,e4,e5,e6⟩,f,g,h1,h2,i,j,k,l⟩:=o;obtain⟨a',⟨b',⟨c1',c2',c3'⟩,⟨d1',d2',d3'⟩,e1',e2',e3',e4',e5',e6'⟩,f',g',I_,h2',i',j',k',l'⟩:=o';simp only[jO.cells,gC.cells,List.cons_append,List.nil_append,fK,Value.bool.injEq,Value.string.injEq,Value.int.injEq,true_and,iW]at h
 obtain⟨rfl,rfl,rfl,rfl,rfl,rfl,rfl,rfl,rfl,rfl,rfl,rfl,rfl,rfl,rfl,rfl,rfl,rfl,rfl,rfl,rfl,rfl⟩:=h;rfl
theorem X1{o o':jO×List ig}(h:vJ w o.1 o.2)(h':vJ w o'.1 o'.2)(e:o.1.cells=o'.1.cells):o=o':=by
 have e1:=jO.TA e;have h2:=h'.aN.eB;rw[<-e1]at h2;have e2:=X0 (h.aN.eB.det h2);exact Prod.ext e1 e2
theorem TB(o:jO)(hs:List ig)(w:World)(h:vJ w o hs) :
  aB 40 #[.agg o.cells.toArray] w fun e w'=>e=.returned (.bool (sF (o,hs)))/\Fr aS w w':=by
 obtain⟨⟨hh,hl,pz,hz,hbd,_,_,_⟩,alk,alm,aln,zcn,_,_,_⟩:=h;obtain⟨wb,kj⟩:∃wb,wb=w.alloc (.cells o.cells.toArray 41):=⟨_,rfl⟩;have kC:Fr aS w wb:=by rw[kj];exact(ae aS w).alloc _
 have lZ:wb.heap[w.heap.size]?=some (.cells o.cells.toArray 41 (0,0)):=by rw[kj];exact aC _ _
 obtain⟨ah,ch,g_⟩:=dU hh;rw[ai]at g_;have HC:=O (show∀U,Fr aS wb U->U.cell? ⟨w.heap.size,13,none⟩=some (.string o.aN.body)/\U.cell? ⟨w.heap.size,15,none⟩=some (.string o.text)/\U.cell? ⟨w.heap.size,16,none⟩=some (.string o.user)/\U.cell? ⟨w.heap.size,17,none⟩=some (.string o.pass)/\U.cell? ⟨w.heap.size,18,none⟩=some (.string o.bS)from fun U hU=>by
  obtain⟨a0,a1,a2,a3,a4,a5,a6,a7,a8,a9,jP,jQ,a12,jN,jR,jy,j_,ka,ke,ko,a20,a21⟩:=eA (hU.keep lZ id) g_;exact⟨jN,jy,j_,ka,ke⟩)
 have YC:=O (JR o.aN hs wb (bh hh kC) hl pz hz);obtain⟨a0,a1,a2,a3,a4,a5,a6,a7,a8,a9,jP,jQ,a12,jN,jR,jy,j_,ka,ke,ko,a20,a21⟩:=eA lZ g_;rw[kj]at a1 a2 a3 a4 a5 a6 a7 a8 a9 jP jQ a12 jN;rw[eF g_]at kj a1 a2 a3 a4 a5 a6 a7 a8 a9 jP jQ a12 jN ⊢;rw[Av g_]at YC;have mF:=O kC;have ri:=O kj;clear hh hl pz hz kC lZ g_ kj a0 jR jy j_ ka ke ko a20 a21;cases hrf:oC o.aN hs
 ·have HR:=O (show sF (o,hs)=true by unfold sF;simp only;rw[hrf];rfl);rw[hrf]at YC;clear hrf;go_enter func40,ntmps40;go_wp2_with fail
  rw[<-ri.o];refine YC.o.mono ?_;rintro e u⟨rfl,hf⟩;clear a1 a2 a3 a4 a5 a6 a7 a8 a9 jP jQ a12 jN;go_wp2;go_ret;exact⟨by rw[HR.o];rfl,mF.o.trans hf⟩
 ·have HR:=O (show sF (o,hs)=decide ((900:Int)<(o.aN.body.size:Int)+(o.text.size:Int)+(o.user.size:Int)+(o.pass.size:Int)+(o.bS.size:Int))by unfold sF;simp only;rw[hrf];rfl);rw[hrf]at YC;clear hrf;go_enter func40,ntmps40;go_wp2_with fail
  rw[<-ri.o];refine YC.o.mono ?_;rintro e u⟨rfl,hf⟩;clear a1 a2 a3 a4 a5 a6 a7 a8 a9 jP jQ a12 jN;obtain⟨b13,b15,b16,b17,b18⟩:=HC.o u hf;go_wp2;go_ret;exact⟨by rw[HR.o];rfl,mF.o.trans hf⟩
theorem X2(v:Value)(os:List (jO×List ig))(w:World)(h:JL w v os) :
  aB 17 #[v] w fun e w'=>e=.returned (.bool (Fj os))/\Fr aS w w':=by
 classical
 obtain⟨hv,hl,ha⟩:=h;obtain⟨av,cv,fO⟩:=hv.form;rw[ai]at fO;subst fO;obtain⟨p,hp⟩:∃p:aZ->Bool,∀o∈os,p o.1.cells=sF o:=⟨fun x=>decide (∃o∈os,o.1.cells=x/\sF o=true),fun o ho=>by
  cases hq:sF o
  ·refine bj (fun⟨o',Ft,e,Ht⟩=>?_);rw[X1 (ha o' Ft) (ha o ho) e,hq]at Ht;cases Ht
  ·exact bJ ⟨o,ho,rfl,hq⟩⟩
 have Np:=O (CR _ #[] p _ _ w call40 (fun x hx u hu=>by
  obtain⟨o,ho,rfl⟩:=bZ.1 hx;rw[hp o ho];have h:=ha o ho;have h':vJ u o.1 o.2:={h with aN:={h.aN with eB:=bh h.aN.eB hu}};simpa using TB o.1 o.2 u h') hv)
 have jv:=O (show(os.map fun o=>o.1.cells).any p=os.any sF by
  rw[List.any_map];clear Np hv hl
  induction os with
  |nil=>rfl
  |cons o os ih =>
   rw[List.any_cons,List.any_cons,ih (fun x hx=>ha x (bN _ hx)) (fun x hx=>hp x (bN _ hx))];show(p o.1.cells||_)=_;rw[hp o (cM ..)])
 clear hp ha hv;by_cases h30:os.length<=30
 ·have hb:=O (show Fj os=!(os.any sF)by unfold Fj;rw[bJ h30];rfl);have i30:(os.length:Int)<=30:=ab;have d30:decide ((os.length:Int)<=30)=true:=bJ i30;go_enter func17,ntmps17;go_wp2_with fail
  refine Np.o.mono ?_;rw[jv.o];rintro e u⟨rfl,hf⟩;go_wp2;go_ret;exact⟨fF hb.o.symm,hf⟩
 ·have hb:=O (show Fj os=false by unfold Fj;rw[bj h30];rfl);have i30:¬(os.length:Int)<=30:=ab;have d30:decide ((os.length:Int)<=30)=false:=bj i30;go_enter func17,ntmps17;go_wp2;go_ret;exact⟨fF hb.o.symm,ae _ _⟩
theorem gM.aq2{o:jO}(h:vJ w o hs)(hb:sF (o,hs)=false):gM w o hs:=by
 obtain⟨⟨hh,hl,pz,hz,hbd,z1,z2,z3⟩,alk,alm,aln,zcn,y1,y2,y3⟩:=h;unfold sF at hb;simp only[eP,Bool.not_eq_false',decide_eq_false_iff_not]at hb;obtain⟨h1,h2⟩:=hb;have hq:=h1;unfold oC at hq;simp only[cy,du]at hq;obtain⟨hf,hq⟩:=hq;have b1:=Go.bounds_i64 z1;have b2:=Go.bounds_i64 z2;have b3:=Go.bounds_i64 z3;have b4:=Go.bounds_i64 y1;have b5:=Go.bounds_i64 y2;have b6:=Go.bounds_i64 y3;unfold M5 at hf
 simp only[cy,du,Bool.not_eq_true',fc]at hf;exact⟨hh,⟨ab,ab,fun p hp=>by
  have:=hf.2 p hp;unfold Tz at this;rw[du]at this;omega⟩,ab,ab,ab,ab,ab,ab,ab,ab,ab,ab,b2,b3,b1,b4,b5,b6⟩
theorem Wk{P G:Nat->bT->World->Prop}{T:Prop}(main:(∀a b c,P a b c->G a b c)->T)(rest:∀a b c,P a b c->G a b c):T:=main rest
def tD(base:Nat)(a:World)(B off:Nat)(cs:aZ)(v:cY)(p:dR)(n:Nat)(X:bT)(t:TypeId)(W:World):Prop :=
 ∃v',eV base W v' p/\Fr (Au B v) a W/\(∀k,v'.kn k->v.kn k\/a.heap.size<=k)/\W.heap[B]?=some (.cells (pB cs off v').toArray 86 (0,0))/\W.heap[n]?=some (.cells X t (0,0))/\¬v'.kn n/\a.heap.size<=n
section
variable {base B off n : Nat} {a w3 u : World} {cs : List Value} {v : cY} {p p0 : dR} {z : Array Value} {t : TypeId}
theorem tD.core{v':cY}(h1:eV base u v' p)(h2:Fr (Au B v) a u)(h3:∀k,v'.kn k->v.kn k\/a.heap.size<=k)(h4:u.heap[B]?=some (.cells (pB cs off v').toArray 86 (0,0)))(hn:u.heap[n]?=some (.cells z t (0,0)))(hf:¬v'.kn n)(Wl:a.heap.size<=n)(oM:base<=a.heap.size)(hB:B<a.heap.size)(hs:t≠9)(X:bT) :
  tD base a B off cs v p n X t (u.setRow n X)/\∀vv ss,dx base u vv ss->dx base (u.setRow n X) vv ss:=by
 have kR:Fr (one n) u (u.setRow n X):=(ae (one n) u).setRow (fun _=>rfl) _;have nd:sG base u (one n):=by
  rintro k rfl _;exact⟨ab,fun c f e=>by rw[hn]at e;cases e;exact hs rfl⟩
 refine⟨⟨v',h1.fr kR nd (fun i hi e=>?_),h2.step kR (fun k hk e=>?_),h3,kR.keep h4 (fun e=>?_),k_ hn,hf,Wl⟩,fun vv ss h=>h.fr kR nd⟩
 ·have e':i=n:=e;subst e';exact hf hi
 ·have e':k=n:=e;omega
 ·have e':B=n:=e;omega
theorem tD.after(h:dn base a B cs off v p u)(oM:base<=a.heap.size)(hB:B<a.heap.size)(hs:t≠9)(z X:bT) :
  tD base a B off cs v p u.heap.size X t ((u.alloc (.cells z t)).setRow u.heap.size X)/\∀vv ss,dx base u vv ss->dx base ((u.alloc (.cells z t)).setRow u.heap.size X) vv ss:=by
 obtain⟨v',h1,h2,h3,h4⟩:=h;have gX:Fr aS u (u.alloc (.cells z t)):=(ae aS u).alloc _;obtain⟨g1,g2⟩:=tD.core (h1.dm gX) (h2.alloc _) h3 (gX.keep h4 id) (aC _ _) (fun hf=>by have:=h1.jq hf;omega) h2.size oM hB hs X;exact⟨g1,fun vv ss hv=>g2 vv ss (hv.dm gX)⟩
theorem tD.before(h0:eV base a v p0)(f3:Fr aS a w3)(Wl:a.heap.size<=n)(hn:w3.heap[n]?=some (.cells z t (0,0)))(h:dn base w3 B cs off v p u)(oM:base<=a.heap.size)(hB:B<a.heap.size)(hs:t≠9)(X:bT) :
  tD base a B off cs v p n X t (u.setRow n X)/\∀vv ss,dx base u vv ss->dx base (u.setRow n X) vv ss:=by
 obtain⟨v',h1,h2,h3,h4⟩:=h;have hv:¬v.kn n:=fun hf=>by have:=h0.jq hf;omega
 have hl:=bq hn;refine tD.core h1 (gl (S:=Au B v) (f3.mono (fun _ _ h=>absurd h id)) h2 (fun _ _ h=>h)) (fun k hk=>?_) h4 (h2.keep hn (fun e=>?_)) (fun hf=>?_) Wl oM hB hs X
 ·rcases h3 k hk with h|h
  ·exact Or.inl h
  ·exact Or.inr (aE f3.size h)
 ·rcases e with e|e
  ·omega
  ·exact hv e
 ·rcases h3 n hf with h|h
  ·exact hv h
  ·omega
end
theorem OwnRows.mono{e:TypeId}(h:OwnRows b e k w v xs)(hb:b'<=b):OwnRows b' e k w v xs:=⟨h.1,World.ownsRow.mono h.2 hb⟩
theorem eU.mono{ps:List ez}(h:eU b w n v ps)(hb:b'<=b):eU b' w n v ps:=⟨aE hb h.low,h.eN,OwnRows.mono h.rows hb⟩
def cpP(qv:Nat->cY)(k i:Nat):aZ:=if i<k then(qv i).cells else [.pointer none,.pointer none,.slice none 0 0]
def cpC(qv:Nat->cY)(now:Int)(k:Nat):aZ:=cpP qv k 0++(cpP qv k 1++(cpP qv k 2++(cpP qv k 3++[.int .i64 now])))
theorem WO(qv:Nat->cY)(now:Int)(hk:k<4)(v:cY):pB (cpC qv now k) (k*3) v=cpC (yX qv k v) now (k+1):=by
 unfold pB cpC cpP yX cY.cells
 match k,hk with
 |0,_=>rfl
 |1,_=>rfl
 |2,_=>rfl
 |3,_=>rfl
theorem afk(qv:Nat->cY)(now:Int)(hk:k<4):(cpC qv now k)[k*3]?=some (.pointer none)/\(cpC qv now k)[k*3+1]?=some (.pointer none)/\(cpC qv now k)[k*3+2]?=some (.slice none 0 0):=by
 unfold cpC cpP
 match k,hk with
 |0,_=>exact⟨rfl,rfl,rfl⟩
 |1,_=>exact⟨rfl,rfl,rfl⟩
 |2,_=>exact⟨rfl,rfl,rfl⟩
 |3,_=>exact⟨rfl,rfl,rfl⟩
structure Mo (base:Nat) (w:World) (x:dD) (k:Nat) (qv:Nat->cY) (W:World):Prop where
 fr:Fr aS w W
 eN:W.heap[w.heap.size]?=some (.cells (cpC qv x.now k).toArray 86 (0,0))
 part:∀i,i<k->eV base W (qv i) (x.part i)
 new:∀i,i<k->∀j,(qv i).kn j->w.heap.size<j
 apart:∀i j,i<k->j<k->i≠j->∀n,(qv i).kn n->¬(qv j).kn n
theorem Mo.step{U:World}{qv:Nat->cY}(h:Mo base w x k qv W)(hb:base<=w.heap.size)(hk:k<4)(hU:Fr aS W U){v:cY}(hp:eV base U v (x.part k))(hn:∀j,v.kn j->W.heap.size<=j) :
  Mo base w x (k+1) (yX qv k v) (((U.setCell ⟨w.heap.size,k*3,none⟩ (.pointer (some ⟨v.b,0,none⟩))).setCell ⟨w.heap.size,k*3+1,none⟩ (.pointer (some ⟨v.k,0,none⟩))).setCell ⟨w.heap.size,k*3+2,none⟩ v.cv):=by
 have hN:w.heap.size<W.heap.size:=bq h.eN;have qm:=hU.keep h.eN id;have Fw:Fr (one w.heap.size) U (((U.setCell ⟨w.heap.size,k*3,none⟩ (.pointer (some ⟨v.b,0,none⟩))).setCell ⟨w.heap.size,k*3+1,none⟩ (.pointer (some ⟨v.k,0,none⟩))).setCell ⟨w.heap.size,k*3+2,none⟩ v.cv) :=
  (((ae (one w.heap.size) U).setCell (p:=⟨w.heap.size,k*3,none⟩) (fun _=>rfl) _).setCell (p:=⟨w.heap.size,k*3+1,none⟩) (fun _=>rfl) _).setCell (p:=⟨w.heap.size,k*3+2,none⟩) (fun _=>rfl) _
 have nd:sG base U (one w.heap.size):=by
  rintro j rfl _;exact⟨hb,fun c f e=>by rw[qm]at e;cases e⟩
 have e1:=cq qm (k*3) (.pointer (some ⟨v.b,0,none⟩));have e2:=cq e1 (k*3+1) (.pointer (some ⟨v.k,0,none⟩));have e3:=cq e2 (k*3+2) v.cv;have old:∀i,i<k->∀j,(qv i).kn j->j<W.heap.size:=fun i hi j hj=>(h.part i hi).jq hj
 refine⟨(((h.fr.trans hU).gN (p:=⟨w.heap.size,k*3,none⟩) (ay _) _).gN (p:=⟨w.heap.size,k*3+1,none⟩) (ay _) _).gN (p:=⟨w.heap.size,k*3+2,none⟩) (ay _) _,?_,fun i hi=>?_,fun i hi j hj=>?_,fun i j hi hj Rl n J5 C7=>?_⟩
 ·rw[e3, <-WO qv x.now hk v];unfold pB;simp
 ·by_cases Nd:i=k
  ·subst Nd;rw[tC];exact hp.fr Fw nd (fun j hj e=>by have e':j=w.heap.size:=e;have:=hn j hj;omega)
  ·rw[mP qv v Nd];have aj_:i<k:=ab;exact((h.part i aj_).dm hU).fr Fw nd (fun j hj e=>by have e':j=w.heap.size:=e;have:=h.new i aj_ j hj;omega)
 ·by_cases Nd:i=k
  ·subst Nd;rw[tC]at hj;have:=hn j hj;omega
  ·rw[mP qv v Nd]at hj;exact h.new i ab j hj
 ·by_cases Nd:i=k
  ·subst Nd;rw[tC]at J5;rw[mP qv v (lj Rl)]at C7;have a1:=hn n J5;have a2:=old j ab n C7;omega
  ·rw[mP qv v Nd]at J5;by_cases hjk:j=k
   ·subst hjk;rw[tC]at C7;have a1:=hn n C7;have a2:=old i ab n J5;omega
   ·rw[mP qv v hjk]at C7;exact h.apart i j ab ab Rl n J5 C7
theorem Mo.done{qv:Nat->cY}(h:Mo base w x 4 qv W)(hb:base<=w.heap.size):cE base W w.heap.size qv x :=
 ⟨hb,h.eN,h.part,h.apart⟩
def aj'(base:Nat)(w:World)(x:dD)(t:Value)(wr:World):Prop:=∃(k:Nat) (qv:Nat->cY),k<=4/\t=.int .i64 k/\Mo base w x k qv wr
def Hq(base:Nat)(w:World)(x:dD)(e:Ending)(w':World):Prop :=
 ∃B qv,e=.returned (.pointer (some ⟨B,0,none⟩))/\cE base w' B qv x/\Fr aS w w'/\∀j,lI B qv j->w.heap.size<=j
theorem BH(base:Nat)(w:World)(B:Nat)(pv:Nat->cY)(x:dD)(h:cE base w B pv x)(hs:∀i,i<4->(x.part i).bG.length<68719476736/\(x.part i).waits.length<68719476736/\(x.part i).book.length<1000000/\(x.part i).dJ.length<=1000000) :
  aB 38 #[.pointer (some ⟨B,0,none⟩)] w (Hq base w x):=by
 have hb:base<=w.heap.size:=aE h.low (Nat.le_of_lt h.lt);obtain⟨x1,mU⟩:∃x1,x1=w.alloc (.cells #[.pointer none,.pointer none,.slice none 0 0,.pointer none,.pointer none,.slice none 0 0,.pointer none,.pointer none,.slice none 0 0,.pointer none,.pointer none,.slice none 0 0,.int .i64 x.now] 86):=⟨_,rfl⟩;have dk:Fr aS w x1:=by rw[mU];exact(ae _ _).alloc _
 have h0:Mo base w x 0 pv x1:=⟨dk,by rw[mU];exact aC _ _,fun i hi=>absurd hi (bV i),fun i hi=>absurd hi (bV i),fun i j hi=>absurd hi (bV i)⟩;have H0:=O h0;have HW:=O h;have HB:=O hb;have HS:=O hs;have qm:=h.eN;have sk:=dk.keep h.eN id;unfold iY cY.cells at qm sk;simp only[List.cons_append,List.nil_append]at qm sk;have aaU:w.cell? ⟨B,12,none⟩=some (.int .i64 x.now):=by simp only[World.cell?,qm];rfl
 have c0:x1.cell? ⟨B,0,none⟩=some (.pointer (some ⟨(pv 0).b,0,none⟩)):=by simp only[World.cell?,sk];rfl
 have c1:x1.cell? ⟨B,1,none⟩=some (.pointer (some ⟨(pv 0).k,0,none⟩)):=by simp only[World.cell?,sk];rfl
 have c2:x1.cell? ⟨B,2,none⟩=some ((pv 0).cv):=by simp only[World.cell?,sk];rfl
 have c3:x1.cell? ⟨B,3,none⟩=some (.pointer (some ⟨(pv 1).b,0,none⟩)):=by simp only[World.cell?,sk];rfl
 have c4:x1.cell? ⟨B,4,none⟩=some (.pointer (some ⟨(pv 1).k,0,none⟩)):=by simp only[World.cell?,sk];rfl
 have c5:x1.cell? ⟨B,5,none⟩=some ((pv 1).cv):=by simp only[World.cell?,sk];rfl
 have c6:x1.cell? ⟨B,6,none⟩=some (.pointer (some ⟨(pv 2).b,0,none⟩)):=by simp only[World.cell?,sk];rfl
 have c7:x1.cell? ⟨B,7,none⟩=some (.pointer (some ⟨(pv 2).k,0,none⟩)):=by simp only[World.cell?,sk];rfl
 have c8:x1.cell? ⟨B,8,none⟩=some ((pv 2).cv):=by simp only[World.cell?,sk];rfl
 have c9:x1.cell? ⟨B,9,none⟩=some (.pointer (some ⟨(pv 3).b,0,none⟩)):=by simp only[World.cell?,sk];rfl
 have G':x1.cell? ⟨B,10,none⟩=some (.pointer (some ⟨(pv 3).k,0,none⟩)):=by simp only[World.cell?,sk];rfl
 have T5:x1.cell? ⟨B,11,none⟩=some ((pv 3).cv):=by simp only[World.cell?,sk];rfl
 have Z0:=O (show∀k:Nat,k<4->∀u,Sem.run prog (Instr.index 84 (.agg #[.pointer (some ⟨(pv 0).b,0,none⟩),.pointer (some ⟨(pv 0).k,0,none⟩),(pv 0).cv,.pointer (some ⟨(pv 1).b,0,none⟩),.pointer (some ⟨(pv 1).k,0,none⟩),(pv 1).cv,.pointer (some ⟨(pv 2).b,0,none⟩),.pointer (some ⟨(pv 2).k,0,none⟩),(pv 2).cv,.pointer (some ⟨(pv 3).b,0,none⟩),.pointer (some ⟨(pv 3).k,0,none⟩),(pv 3).cv]) (.int .i64 k)) u=.ok (.agg #[.pointer (some ⟨(pv k).b,0,none⟩),.pointer (some ⟨(pv k).k,0,none⟩),(pv k).cv]) u from fun k hk u=>by
  rcases(show k=0\/k=1\/k=2\/k=3 from ab)with rfl|rfl|rfl|rfl
  ·kernel_rfl
  ·kernel_rfl
  ·kernel_rfl
  ·kernel_rfl)
 have Nl:=O mU;rw[mU]at c0 c1 c2 c3 c4 c5 c6 c7 c8 c9 G' T5;clear h0 h hb hs qm sk mU dk;go_enter func38,ntmps38;go_wp2_with fail
 rw[<-Nl.o];clear c0 c1 c2 c3 c4 c5 c6 c7 c8 c9 G' T5 aaU;go_loopw[16] (aj' base w x) (fun i _=>4-(intOf i).toNat)
 case atStart=>exact⟨0,pv,aL _,rfl,H0.o⟩
 case round =>
  obtain⟨k,qv,hk,rfl,hcp⟩:=hrel;by_cases fe:k<4
  ·have pE:(k:Int)<4:=ab;have OC:¬(k:Int)<0:=ab;have apL:(0:Int)<=(k:Int):=ab;have afm:¬(4:Int)<=(k:Int):=ab;have xu:=Z0.o k fe;have Ua:=O hcp;have HKS:=O fe;obtain⟨cvk,apM⟩:∃c,c=(pv k).cv:=⟨_,rfl⟩;obtain⟨ca,cc,Np⟩:=(HW.o.part k fe).dJ.form;rw[ai]at Np;rw[Np]at xu
   obtain⟨y1,Fs⟩:∃y1,y1=wr.alloc (.cells #[.pointer (some ⟨(pv k).b,0,none⟩),.pointer (some ⟨(pv k).k,0,none⟩),.slice ca (x.part k).dJ.length cc] 83):=⟨_,rfl⟩;have hfy:Fr aS wr y1:=by rw[Fs];exact(ae _ _).alloc _
   have rj:y1.heap[wr.heap.size]?=some (.cells #[.pointer (some ⟨(pv k).b,0,none⟩),.pointer (some ⟨(pv k).k,0,none⟩),.slice ca (x.part k).dJ.length cc] 83 (0,0)):=by rw[Fs];exact aC _ _
   have HWY:=O (HW.o.dm (hcp.fr.trans hfy));have HFY:=O hfy;have HBY:=O rj;have SQ:=O Fs;have HCF:=O Np;have HC:=O (show∀U,Fr aS y1 U->(U.cell? ⟨wr.heap.size,0,none⟩=some (.pointer (some ⟨(pv k).b,0,none⟩))/\U.cell? ⟨wr.heap.size,1,none⟩=some (.pointer (some ⟨(pv k).k,0,none⟩))/\U.cell? ⟨wr.heap.size,2,none⟩=some (.slice ca (x.part k).dJ.length cc))from fun U hU=>by
    have j:=hU.keep HBY.o id;refine⟨?_,?_,?_⟩<;>simp[World.cell?,j])
   have HKB:=O (show∀U,Fr aS y1 U->aB 79 #[.pointer (some ⟨(pv k).b,0,none⟩)] U (LM base U (x.part k).bG (x.part k).waits)from fun U hU=>VN base U (pv k).b (pv k).gv (pv k).wv (x.part k).bG (x.part k).waits ((HWY.o.dm hU).part k HKS.o).oK (HS.o k HKS.o).1 (HS.o k HKS.o).2.1)
   have HKK:=O (show∀U,Fr aS y1 U->aB 80 #[.pointer (some ⟨(pv k).k,0,none⟩)] U fun e w'=>∃b' v',e=.returned (.pointer (some ⟨b',0,none⟩))/\eU U.heap.size w' b' v' (x.part k).book/\Fr aS U w' from fun U hU=>Jq base U (pv k).k (pv k).kv (x.part k).book ((HWY.o.dm hU).part k HKS.o).book (HS.o k HKS.o).2.2.1)
   have HKC:=O (show∀U,Fr aS y1 U->aB 81 #[.slice ca (x.part k).dJ.length cc] U fun e w'=>∃v',e=.returned v'/\OwnRows U.heap.size 97 4 w' v' ((x.part k).dJ.map lB)/\Fr aS U w' from fun U hU=>by
    have hh:=((HWY.o.dm hU).part k HKS.o).dJ.at;rw[HCF.o]at hh;exact QR _ _ U hh (by rw[ai];have:=(HS.o k HKS.o).2.2.2;omega))
   clear hcp hfy rj Fs Np apM cvk fe;go_wp2_with fail
   rw[<-SQ.o];refine wp_region_held_drew (S:=(fun U=>U.cell? ⟨wr.heap.size,0,none⟩=some (.pointer (some ⟨(pv k).b,0,none⟩))/\U.cell? ⟨wr.heap.size,1,none⟩=some (.pointer (some ⟨(pv k).k,0,none⟩))/\U.cell? ⟨wr.heap.size,2,none⟩=some (.slice ca (x.part k).dJ.length cc))) af (HC.o _ (aA (ae _ _))) ?_;intro zl;refine aU 0 20 rfl ?_;refine aU 1 21 rfl ?_;refine aU 2 22 rfl ?_;refine aU 3 23 rfl ?_
   refine aU 5 25 rfl ?_;refine aU 6 26 rfl ?_;refine aU 8 28 rfl ?_;refine aU 9 29 rfl ?_;refine aU 12 32 rfl ?_;refine aU 13 33 rfl ?_;refine eR 4 rfl fun K hK=>?_;go_simp;refine(HKB.o _ (aA (ae aS y1))).mono ?_;rintro e u1⟨kb,kg,kw,rfl,hb,hf,hn⟩;have ln:=O ((aA (ae aS y1)).trans hf);have J8:=O hf;have HGB:=O hb;have HGN:=O hn;clear hb hf hn;refine hK.out _ _ (HC.o _ ln.o) ?_;intro xF;clear hK zl K
   try simp only[Act.put,sA,sB,sC]
   refine eR 7 rfl fun K hK=>?_;go_simp;refine(HKK.o _ (ln.o)).mono ?_;rintro e u2⟨kk,kv,rfl,hb,hf⟩;have fU:=O ((ln.o).trans hf);have YG:=O hf;have HGK:=O hb;clear hb hf;refine hK.out _ _ (HC.o _ fU.o) ?_;intro Aw;clear hK xF K
   try simp only[Act.put,sA,sB,sC]
   refine eR 10 rfl fun K hK=>?_;go_simp;refine(HKC.o _ (fU.o)).mono ?_;rintro e u3⟨kc,rfl,hb,hf⟩;have il:=O ((fU.o).trans hf);have HQ3:=O hf;have HGC:=O hb;obtain⟨na,nc,WG⟩:=hb.form;rw[ai]at WG;subst WG;clear hb hf;refine hK.out _ _ (HC.o _ il.o) ?_;intro F0;clear hK Aw K
   try simp only[Act.put,sA,sB,sC]
   refine aU 11 31 rfl ?_;refine aU 14 34 rfl ?_;refine eR 15 rfl fun K hK=>?_
   have jx:=Ua.o.step HB.o HKS.o (HFY.o.trans il.o) (v:=⟨kb,kg,kw,kk,kv,.slice na (x.part k).dJ.length nc⟩) ⟨HGB.o.dm (YG.o.trans HQ3.o),(eU.mono HGK.o (aE (aE HB.o Ua.o.fr.size) (HFY.o.trans (ln.o)).size)).dm HQ3.o,OwnRows.fr (OwnRows.mono HGC.o (aE (aE HB.o Ua.o.fr.size) (HFY.o.trans (fU.o)).size)) (ae _ _) (fun _ _ h=>h)⟩ (by
    rintro j(hj|hj|hj)
    ·exact aE (HFY.o.trans (aA (ae _ _))).size (HGN.o j hj)
    ·exact aE (HFY.o.trans (ln.o)).size (HGK.o.nJ hj)
    ·exact aE (HFY.o.trans (fU.o)).size (HGC.o.block _ hj))
   have lO:=O jx;have tH:=il.o.keep (HFY.o.keep Ua.o.eN id) id;obtain⟨q0,q1,q2⟩:=afk qv x.now HKS.o;have c0:u3.cell? ⟨w.heap.size,k*3,none⟩=some (.pointer none):=by simp[World.cell?,tH,q0]
   have c1:u3.cell? ⟨w.heap.size,k*3+1,none⟩=some (.pointer none):=by simp[World.cell?,tH,q1]
   have c2:u3.cell? ⟨w.heap.size,k*3+2,none⟩=some (.slice none 0 0):=by simp[World.cell?,tH,q2]
   have f0:∀j,u3.frozen? ⟨w.heap.size,j,none⟩=false:=fun j=>by simp[World.frozen?,tH]
   have f1:=f0 (k*3);have f2:=f0 (k*3+1);have f3:=f0 (k*3+2);obtain⟨W9,hw9⟩:∃W9,W9=((u3.setCell ⟨w.heap.size,k*3,none⟩ (.pointer (some ⟨kb,0,none⟩))).setCell ⟨w.heap.size,k*3+1,none⟩ (.pointer (some ⟨kk,0,none⟩))).setCell ⟨w.heap.size,k*3+2,none⟩ (.slice na (x.part k).dJ.length nc):=⟨_,rfl⟩
   have HS9:=O (show Mo base w x (k+1) (yX qv k ⟨kb,kg,kw,kk,kv,.slice na (x.part k).dJ.length nc⟩) W9 by rw[hw9];exact lO.o);have Fw:Fr (one w.heap.size) u3 W9:=by rw[hw9];exact(((ae (one w.heap.size) u3).setCell (p:=⟨w.heap.size,k*3,none⟩) (fun _=>rfl) _).setCell (p:=⟨w.heap.size,k*3+1,none⟩) (fun _=>rfl) _).setCell (p:=⟨w.heap.size,k*3+2,none⟩) (fun _=>rfl) _
   have OV:=Fw.keep (il.o.keep HBY.o id) (fun e=>by have e':wr.heap.size=w.heap.size:=e;have:=bq Ua.o.eN;omega);have HB9:=O OV;clear Fw OV;clear jx q0 q1 q2 f0 tH;go_simp;rw[<-hw9];clear hw9;have OV:=HB9.o;refine hK.out _ _ ⟨by simp[World.cell?,OV],by simp[World.cell?,OV],by simp[World.cell?,OV]⟩ ?_;intro BC;clear hK F0 K BC OV
   try simp only[Act.put,sA,sB,sC]
   refine wpAnyH_done af ?_ _;go_wp2_with fail
   go_roundw
   case rel=>exact⟨k+1,_,ab,bg,HS9.o⟩
   case measure=>simp[intOf];omega
  ·have Ld:k=4:=ab;subst Ld;have HD:=O (hcp.done HB.o);have qD:=O hcp.fr;have HNW:=O (show∀j,lI w.heap.size qv j->w.heap.size<=j from fun j hj=>by
    rcases hj with rfl|⟨i,hi,hj⟩
    ·exact ay _
    ·exact Nat.le_of_lt (hcp.new i hi j hj))
   clear hcp H0;go_wp2;go_ret;exact⟨_,_,rfl,HD.o,qD.o,HNW.o⟩
theorem Tc:(prog.info? 97).map (fun i=>(i.zero,i.size,i.bytes))=some (some (.agg YI),4,40):=af
theorem Ph{w4:World}{l:List (gG×Int)}{c:gG×Int}{gg cap:Nat}(h:w4.ownsRow base 97 4 (.slice (some ⟨gg,0,none⟩) (l.length+1) cap) (l.length+1) ((l.map lB).flatten++lB c)) :
  OwnRows base 97 4 w4 (.slice (some ⟨gg,0,none⟩) (l.length+1) cap) ((l++[c]).map lB):=by
 refine⟨fun x hx=>?_,?_⟩
 ·obtain⟨q,_,rfl⟩:=bZ.1 hx;exact⟨rfl,Hy q⟩
 ·rw[bI,ey,aK,ai];simpa using h
theorem Pj(base:Nat)(w:World)(B off:Nat)(cs:aZ)(v:cY)(p:dR)(o:jO)(hs:List ig)(h:eV base w v p)(ha:gY w B cs off v)(oM:base<=B)(hf:gM w o hs)(hk:ny p) :
  aB 35 #[.pointer (some ⟨B,off,none⟩),.agg o.cells.toArray] w (eK base w B cs off v (jY p (o.dW hs))):=by
 have vd:B<w.heap.size:=bq ha.eN;have Ho:¬v.kn B:=h.fq ha.eN ag;obtain⟨ah,ch,g_⟩:=hf.h_;obtain⟨w2,eG⟩:∃w2,w2=(w.alloc (.cells o.cells.toArray 41)).alloc (.cells bU 30):=⟨_,rfl⟩;have dE:Fr aS w w2:=by rw[eG];exact((ae aS w).alloc _).alloc _
 have k1:w2.heap[w.heap.size]?=some (.cells o.cells.toArray 41 (0,0)):=by rw[eG];exact((ae aS _).alloc _).keep (aC _ _) id
 have k2:w2.heap[w.heap.size+1]?=some (.cells bU 30 (0,0)):=by
  have h:=aC (w.alloc (.cells o.cells.toArray 41)) (.cells bU 30);rw[bP]at h;rw[eG];exact h
 have xI:w2.heap.size=w.heap.size+2:=by rw[eG];simp
 have WC:=O (show∀U,Fr aS w2 U->U.heap[w.heap.size]?=some (.cells o.cells.toArray 41 (0,0))from fun U hU=>hU.keep k1 id);have Da:=O Ho;have HH:=O h;have HA:=O ha;have HF:=O hf;have l_:=O g_;have HK:=O hk;have fU:=O dE;have mV:=O k1;have ra:=O k2;have py:=O (show base<=w.heap.size from ab);have xL:=O oM;have pn:=O vd;have Sv:=O eG
 obtain⟨a0,a1,a2,a3,a4,a5,a6,a7,a8,a9,jP,jQ,a12,jN,jR,jy,j_,ka,ke,ko,a20,a21⟩:=eA k1 g_;rw[eG]at a0 a1 a2 a3 a4 a5 a6 a7 a8 a9 jP jQ a12 jN jR jy j_ ka ke ko a20 a21;rw[eF g_]at eG a0 a1 a2 a3 a4 a5 a6 a7 a8 a9 jP jQ a12 jN jR jy j_ ka ke ko a20 a21 ⊢;unfold bU at eG a0 a1 a2 a3 a4 a5 a6 a7 a8 a9 jP jQ a12 jN jR jy j_ ka ke ko a20 a21;have nP:=O eG;clear eG g_ dE k1 k2 h ha hf Ho hk
 go_enter func35,ntmps35;have SK:=HK.o.sZ;by_cases akO:o.cert<0
 ·have HR:=O (show jY p (o.dW hs)=(p,rep 7)by
   unfold jY;rw[az (show(o.dW hs).cert<0 from akO)])
  have HP:=O (mC HH.o HA.o fU.o);have sN:=nP.o;subst sN;go_wp2_with (first|((with_reducible refine cZ 30 ?_);refine aF rfl 30 (.tmp 4) (.tmp 9) rfl (w.heap.size+1) #[.int .i64 7,.string ⟨#[]⟩,.int .i64 0] rfl rfl _ bU ra.o (bf _ rfl) rfl cC ?_)|fail)
  refine aW (bw bD _ _ (w.heap.size+1) 30 #[.int .i64 7,.string ⟨#[]⟩,.int .i64 0] (0,0) _ rfl (a_ _ (w.heap.size+1) _ _ _ _ ra.o) underlying30 rfl (bf _ rfl)) rfl ?_;unfold eK;rw[HR.o];exact⟨rfl,dC HP.o py.o pn.o (bX _) ra.o eQ ag _⟩
 ·have HR:=O (show jY p (o.dW hs)=({p with dJ:=yg p.dJ o.aN.o o.cert},rep 1)by
   unfold jY;rw[aq (show¬(o.dW hs).cert<0 from akO)];rfl)
  have DR:=O (MH base w2 B off cs v p o.aN.o (HH.o.dm fU.o) (HA.o.dm fU.o) xL.o);unfold gG.cells at DR;have hx:=nP;have sN:=nP.o;go_wp2_with fail
  rw[<-sN];refine DR.o.mono ?_;rintro e u3⟨rfl,hp3⟩;clear DR a0 a1 a2 a3 a4 a5 a6 a7 a8 a9 jP jQ a12 jN jR jy j_ ka ke ko a20 a21 hx sN;obtain⟨v3,i3,f3,ac1,akP⟩:=hp3;have aa3:=iy (HA.o.dm fU.o) akP;have o3:=eM (HH.o.dm fU.o) f3 (show w2.heap[w.heap.size]?=_ from mV.o) jw ab;have r3:=eM (HH.o.dm fU.o) f3 (show w2.heap[w.heap.size+1]?=_ from ra.o) dM ab
  obtain⟨a0,a1,a2,a3,a4,a5,a6,a7,a8,a9,jP,jQ,a12,jN,jR,jy,j_,ka,ke,ko,a20,a21⟩:=eA o3 l_.o;obtain⟨fs,kR⟩:∃fs,fs=LX o.aN.o p.dJ:=⟨_,rfl⟩;have Aa:fs.length<=8:=by rw[kR];unfold LX;exact aE (bW _ _) SK.2.2.2
  rw[<-kR]at i3;obtain⟨av,cv,hcv⟩:=i3.dJ.form;rw[ai]at hcv;have d2:=aa3.mg;have e2:=aa3.free (off+2);rw[hcv]at d2;have cW:u3.ownsRow base 97 4 (.slice av fs.length cv) fs.length (fs.map lB).flatten:=by
   have h:=i3.dJ.2;rw[hcv,ai]at h;exact h
  have hB3:¬own (.slice av fs.length cv) B:=fun hb=>i3.fq aa3.eN ag (Or.inr (Or.inr (by rw[hcv];exact hb)));have akQ:B<u3.heap.size:=bq aa3.eN;have axd:base<=u3.heap.size:=by have:=xL.o;omega
  obtain⟨i0,qN,pD,ll,lF⟩:=info_parts Tc;have xJ:=O (Hy (o.aN.o,o.cert));have I3:=O i3;have A3:=O aa3;have F3:=O f3;have FT3:=O ac1;have O3:=O o3;have R3:=O r3;have xO:=O hcv;have VC:=O kR;clear i3 aa3 f3 ac1 o3 r3 akP hcv kR;go_wp2_with fail
  go_region_law ((with_reducible refine mX ⟨some 29,_,_,_,_,_⟩ ?_)
                 refine step_append_lies _ bD _ _ _ bD base 97 i0 _ 4 40 underlying81 qN pD ll lF rfl ab (.slice av fs.length cv) fs.length _ bD (by repeat(first|exact cW|apply World.ownsRow.alloc|apply World.ownsRow.drew)) ⟨u3.heap.size,0,none⟩ 1 1 (lB (o.aN.o,o.cert)) bD bD (kY u3 (lB (o.aN.o,o.cert)) _) xJ.o ab ft ab bH (u3.heap.size+1) aR ?_
                 intro gg cap w4 fg jJ dS LH
                 have j6:Fr (own (.slice av fs.length cv)) u3 w4:=fy (by repeat(first|exact ae _ _|apply aA|apply bB)) jJ (fun _ hk _=>hk)
                 have k4:w4.cell? ⟨B,off+2,none⟩=some (.slice av fs.length cv):=(j6.cell (p:=⟨B,off+2,none⟩) akQ hB3).trans d2
                 have e4:w4.frozen? ⟨B,off+2,none⟩=false:=(j6.frozen (p:=⟨B,off+2,none⟩) akQ hB3).trans e2)
  all_goals
   have hP:=dn.dJ I3.o A3.o xL.o (Ph fg) (by rw[xO.o];exact j6) (fun k hk=>by
    have e:gg=k:=by simpa[own,Value.ownBlock]using hk
    subst e;rcases dS with dS|dS
    ·exact Or.inl (by rw[xO.o];exact dS)
    ·exact Or.inr ab)
   clear fg jJ j6 k4 e4 dS LH cW a0 a1 a2 a3 a4 a5 a6 a7 a8 a9 jP jQ a12 jN jR jy j_ ka ke ko a20 a21 d2 e2;generalize w4.setCell ⟨B,off+2,none⟩ (.slice (some ⟨gg,0,none⟩) (fs.length+1) cap)=w5 at *
   obtain⟨v5,i5,f5,MI,Xj⟩:=hP;have aa5:=iy A3.o Xj;have r5:=eM I3.o f5 R3.o dM ab;obtain⟨av5,cv5,aa'⟩:=i5.dJ.form;have xN:(List.map lB (fs++[(o.aN.o,o.cert)])).length=fs.length+1:=aR;rw[xN]at aa';have d5:=aa5.mg;have e5:=aa5.free (off+2);rw[aa']at d5;have I5:=O i5;have F5:=O f5;have FT5:=O MI;have AA5:=O aa5;have R5:=O r5;have Xk:=O aa';have Nn:=O xN;clear i5 f5 MI aa5 r5 aa' xN Xj
   by_cases h8:8<=fs.length
   ·have h8':(8:Int)<(fs.length:Int)+1:=ab;obtain⟨n,hn⟩:∃n:Nat,fs.length+1=n+8:=⟨fs.length+1-8,ab⟩;obtain⟨g5,rfl⟩:∃g5,av5=some ⟨g5,0,none⟩:=by
     rcases I5.o.dJ.2.2 with ⟨hv,hq⟩|⟨g,cap,cur,hv,_⟩
     ·rw[Nn.o]at hq;omega
     ·rw[Xk.o]at hv;injection hv with h1;exact⟨g,h1⟩
    have mE:=I5.o.dJ;rw[Xk.o, <-Nn.o]at mE;have qV:=SN base g5 cv5 0 n (List.map lB (fs++[(o.aN.o,o.cert)])) w5 mE ab (by rw[Nn.o];omega);rw[Nn.o,show 0+(fs.length+1-n)=8 from ab,List.take_zero,List.nil_append, <-List.map_drop]at qV;have VW:=O qV;have HN:=O hn;have hce:=O (show yg p.dJ o.aN.o o.cert=(fs++[(o.aN.o,o.cert)]).drop n by
     unfold yg;rw[<-VC.o,aK,show fs.length+[(o.aN.o,o.cert)].length-8=n from bH])
    have qq:(0:Int)<(fs.length:Int)+1-8:=ab;clear qV mE hn;go_wp2_with fail
    rw[show((fs.length:Int)+1-8)=(n:Int)from by have:=HN.o;omega];refine VW.o.mono ?_;rintro e w7⟨rfl,Zt,nO⟩;clear VW d5 e5;have Mn:Fr (own v5.cv) w5 w7:=nO.mono (fun k _ hk=>by rw[Xk.o,show k=g5 from hk];rfl);have hP7:=dn.dJ I5.o AA5.o xL.o Zt Mn (fun k hk=>Or.inl (by rw[Xk.o];exact hk));have hB5:¬own v5.cv B:=fun hb=>I5.o.fq AA5.o.eN ag (Or.inr (Or.inr hb));have aqs:=Mn.keep AA5.o.eN hB5
    have a7:gY w7 B _ off v5:=AA5.o.fr Mn hB5;have d7:=a7.mg;have e7:=a7.free (off+2);rw[Xk.o]at d7;have r7:=O (eM I5.o (by obtain⟨_,_,h,_⟩:=hP7;exact h) R5.o dM ab);have HP:=O (show dn base w2 B cs off v {p with dJ:=yg p.dJ o.aN.o o.cert} _ from by
     rw[hce.o];exact gP F3.o FT3.o (gP F5.o FT5.o hP7))
    clear hP7 Zt nO Mn aqs a7;go_wp2_with (first|((with_reducible refine cZ 30 ?_);refine aF rfl 30 (.tmp 4) (.tmp 49) rfl (w.heap.size+1) #[.int .i64 1,.string ⟨#[]⟩,.int .i64 0] rfl rfl _ bU r7.o (bf _ rfl) rfl cC ?_)|fail)
    refine aW (bw bD _ _ (w.heap.size+1) 30 #[.int .i64 1,.string ⟨#[]⟩,.int .i64 0] (0,0) _ rfl (a_ _ (w.heap.size+1) _ _ _ _ r7.o) underlying30 rfl (bf _ rfl)) rfl ?_;unfold eK;rw[HR.o];exact⟨rfl,dC (HP.o.after fU.o) py.o pn.o (bX _) r7.o eQ ag _⟩
   ·have h8':¬(8:Int)<(fs.length:Int)+1:=ab;have atA:¬(0:Int)<(fs.length:Int)+1-8:=ab;have hce:=O (show yg p.dJ o.aN.o o.cert=fs++[(o.aN.o,o.cert)]by
     unfold yg;rw[<-VC.o,aK,show fs.length+[(o.aN.o,o.cert)].length-8=0 from bH,eI])
    have HP:=O (show dn base w2 B cs off v {p with dJ:=yg p.dJ o.aN.o o.cert} w5 from by
     rw[hce.o];exact gP F3.o FT3.o ⟨v5,I5.o,F5.o,FT5.o,AA5.o.eN⟩)
    go_wp2_with (first|((with_reducible refine cZ 30 ?_);refine aF rfl 30 (.tmp 4) (.tmp 49) rfl (w.heap.size+1) #[.int .i64 1,.string ⟨#[]⟩,.int .i64 0] rfl rfl _ bU R5.o (bf _ rfl) rfl cC ?_)|fail)
    refine aW (bw bD _ _ (w.heap.size+1) 30 #[.int .i64 1,.string ⟨#[]⟩,.int .i64 0] (0,0) _ rfl (a_ _ (w.heap.size+1) _ _ _ _ R5.o) underlying30 rfl (bf _ rfl)) rfl ?_;unfold eK;rw[HR.o];exact⟨rfl,dC (HP.o.after fU.o) py.o pn.o (bX _) R5.o eQ ag _⟩
theorem Xl(base:Nat)(w:World)(B off:Nat)(cs:aZ)(v:cY)(p:dR)(o:jO)(hs:List ig)(h:eV base w v p)(ha:gY w B cs off v)(oM:base<=B)(hf:gM w o hs)(hk:ny p) :
  aB 36 #[.pointer (some ⟨B,off,none⟩),.agg o.cells.toArray] w (eK base w B cs off v (pG p (o.dW hs))):=by
 have vd:B<w.heap.size:=bq ha.eN;have Ho:¬v.kn B:=h.fq ha.eN ag;obtain⟨ah,ch,g_⟩:=hf.h_;obtain⟨w2,eG⟩:∃w2,w2=(w.alloc (.cells o.cells.toArray 41)).alloc (.cells bU 30):=⟨_,rfl⟩;have dE:Fr aS w w2:=by rw[eG];exact((ae aS w).alloc _).alloc _
 have k1:w2.heap[w.heap.size]?=some (.cells o.cells.toArray 41 (0,0)):=by rw[eG];exact((ae aS _).alloc _).keep (aC _ _) id
 have k2:w2.heap[w.heap.size+1]?=some (.cells bU 30 (0,0)):=by
  have h:=aC (w.alloc (.cells o.cells.toArray 41)) (.cells bU 30);rw[bP]at h;rw[eG];exact h
 have xI:w2.heap.size=w.heap.size+2:=by rw[eG];simp
 have WC:=O (show∀U,Fr aS w2 U->U.heap[w.heap.size]?=some (.cells o.cells.toArray 41 (0,0))from fun U hU=>hU.keep k1 id);have Da:=O Ho;have HH:=O h;have HA:=O ha;have HF:=O hf;have l_:=O g_;have HK:=O hk;have fU:=O dE;have mV:=O k1;have ra:=O k2;have py:=O (show base<=w.heap.size from ab);have xL:=O oM;have pn:=O vd;have Sv:=O eG
 obtain⟨a0,a1,a2,a3,a4,a5,a6,a7,a8,a9,jP,jQ,a12,jN,jR,jy,j_,ka,ke,ko,a20,a21⟩:=eA k1 g_;rw[eG]at a0 a1 a2 a3 a4 a5 a6 a7 a8 a9 jP jQ a12 jN jR jy j_ ka ke ko a20 a21;rw[eF g_]at eG a0 a1 a2 a3 a4 a5 a6 a7 a8 a9 jP jQ a12 jN jR jy j_ ka ke ko a20 a21 ⊢;unfold bU at eG a0 a1 a2 a3 a4 a5 a6 a7 a8 a9 jP jQ a12 jN jR jy j_ ka ke ko a20 a21;have nP:=O eG
 obtain⟨w3,U_⟩:∃w3,w3=w2.alloc (.cells #[.bool o.aN.o.aG,.string o.aN.o.host,.int .i64 o.aN.o.port] 32):=⟨_,rfl⟩;have iz:Fr aS w2 w3:=by rw[U_];exact(ae aS w2).alloc _
 have k3:w3.heap[w2.heap.size]?=some (.cells #[.bool o.aN.o.aG,.string o.aN.o.host,.int .i64 o.aN.o.port] 32 (0,0)):=by rw[U_];exact aC _ _
 rw[xI]at k3;have il:=O (fU.o.trans iz);have Te:=O k3;have akS:=O (WC.o w3 iz);have afP:=O (iz.keep ra.o id);have HW3:=O U_;have H3:=O (HH.o.dm il.o);have HA3:=O (HA.o.dm il.o);have SK:=HK.o.sZ;have OT:w3.heap.size=w.heap.size+1+1+1:=by rw[U_];simp;omega
 clear U_ iz k3;clear eG g_ dE k1 k2 h ha hf Ho hk;go_enter func36,ntmps36;have hx:=nP;have sN:=nP.o;cases iI:o.all
 case true =>
  rw[iI]at sN;by_cases h9:o.what=9
  ·have HR:=O (show pG p (o.dW hs)=(yV,rep 1)by
    unfold pG;rw[az];show(o.all&&o.what==9)=true;rw[iI,h9];rfl)
   have HP:=O (dn.fresh H3.o HA3.o xL.o);rw[OT]at HP;rw[h9]at sN;have Jo:gY ((w3.alloc (.cells #[.slice none 0 0,.slice none 0 0] 89)).alloc (.cells #[.slice none 0 0] 92)) B cs off v:=HA3.o.dm (((ae aS w3).alloc _).alloc _);have c0:=Jo.cell0;have c1:=Jo.ib;have c2:=Jo.mg;have f0:=Jo.free off;have f1:=Jo.free (off+1);have f2:=Jo.free (off+2)
   have BF:=O (u_ (u_ (u_ ((((ae aS w3).alloc (.cells #[.slice none 0 0,.slice none 0 0] 89)).alloc (.cells #[.slice none 0 0] 92)).keep afP.o id) (show w.heap.size+1≠B from ab) off (.pointer (some ⟨w.heap.size+1+1+1,0,none⟩))) (show w.heap.size+1≠B from ab) (off+1) (.pointer (some ⟨w.heap.size+1+1+1+1,0,none⟩))) (show w.heap.size+1≠B from ab) (off+2) (.slice none 0 0));clear Jo
   go_wp2_with (first|((with_reducible refine cZ 83 ?_);have Pk:=hx;clear hx Pk;rw[<-sN];rw[<-HW3.o];generalize (w3.alloc (.cells #[.slice none 0 0,.slice none 0 0] 89)).alloc (.cells #[.slice none 0 0] 92)=W5 at *)|((with_reducible refine cZ 30 ?_);refine aF rfl 30 (.tmp 4) (.tmp 24) rfl (w.heap.size+1) #[.int .i64 1,.string ⟨#[]⟩,.int .i64 0] rfl rfl _ bU BF.o (bf _ rfl) rfl cC ?_))
   refine aW (bw bD _ _ (w.heap.size+1) 30 #[.int .i64 1,.string ⟨#[]⟩,.int .i64 0] (0,0) _ rfl (a_ _ (w.heap.size+1) _ _ _ _ BF.o) underlying30 rfl (bf _ rfl)) rfl ?_;unfold eK;rw[HR.o];exact⟨rfl,dC (HP.o.after il.o) py.o pn.o (bX _) BF.o eQ ag _⟩
  ·have t9:(o.what==9)=false:=aO.2 h9;clear h9;have HSW:=O (show∀U,Fr aS w3 U->aB 70 #[.pointer (some ⟨v.b,0,none⟩),.agg #[.bool o.aN.o.aG,.string o.aN.o.host,.int .i64 o.aN.o.port]] U (xy base U v.b v.gv v.wv p.bG p.waits o.aN.o)from fun U hU=>G0 base U v.b v.gv v.wv p.bG p.waits o.aN.o ((H3.o.dm hU).oK) ab)
   have Hw:=O (show∀U,Fr (dy v.b v.gv v.wv) w3 U->(U.cell? ⟨B,off,none⟩=some (.pointer (some ⟨v.b,0,none⟩))/\U.cell? ⟨w.heap.size+2,0,none⟩=some (.bool o.aN.o.aG)/\U.cell? ⟨w.heap.size+2,1,none⟩=some (.string o.aN.o.host)/\U.cell? ⟨w.heap.size+2,2,none⟩=some (.int .i64 o.aN.o.port))from fun U hU=>by
    have j1:=HA3.o.fr hU (fun hb=>Da.o (Or.inl hb));have j2:=hU.keep Te.o (fun hb=>by
     obtain⟨c,t,e,hk⟩:=H3.o.oK.ix hb;rw[Te.o]at e;cases e;revert hk;decide)
    exact⟨j1.cell0,by simp[World.cell?,j2]⟩)
   go_wp2_with fail
   rw[<-sN, <-HW3.o];clear a0 a1 a2 a3 a4 a5 a6 a7 a8 a9 jP jQ a12 jN jR jy j_ ka ke ko a20 a21 sN
   go_region_held3 (fun U=>Fr (dy v.b v.gv v.wv) w3 U/\U.cell? ⟨B,off,none⟩=some (.pointer (some ⟨v.b,0,none⟩))/\U.cell? ⟨w.heap.size+2,0,none⟩=some (.bool o.aN.o.aG)/\U.cell? ⟨w.heap.size+2,1,none⟩=some (.string o.aN.o.host)/\U.cell? ⟨w.heap.size+2,2,none⟩=some (.int .i64 o.aN.o.port)) ((refine(fun hU=>⟨hU,Hw.o _ hU⟩) ?_;first|exact aA (ae _ _)|assumption))
    ((first
     |(go_at_call 70;refine(HSW.o _ (aA (ae _ _))).mono ?_;rintro e u4 ⟨rfl,vQ⟩;have afQ:Fr (dy v.b v.gv v.wv) w3 u4:=(aA (ae _ _)).trans (by obtain⟨_,_,_,h,_⟩:=vQ;exact h))))
   obtain⟨v4,i4,f4,MJ,Xm⟩:=eW (H3.o.dm (aA (ae aS w3))) (HA3.o.dm (aA (ae aS w3))) Da.o vQ;have a4:=iy HA3.o Xm;have o4:=eM (H3.o.dm (aA (ae aS w3))) f4 (show w3.drew.heap[w.heap.size]?=_ from akS.o) jw ab;have r4:=eM (H3.o.dm (aA (ae aS w3))) f4 (show w3.drew.heap[w.heap.size+1]?=_ from afP.o) dM ab;have g4:=eM (H3.o.dm (aA (ae aS w3))) f4 (show w3.drew.heap[w.heap.size+2]?=_ from Te.o) p9 ab
   have I4:=O i4;have F4:=O f4;have FT4:=O MJ;have AA4:=O a4;have O4:=O o4;have R4:=O r4;have G4:=O g4;obtain⟨a0,a1,a2,a3,a4,a5,a6,a7,a8,a9,jP,jQ,a12,jN,jR,jy,j_,ka,ke,ko,a20,a21⟩:=eA o4 l_.o;clear vQ afQ i4 f4 MJ a4 o4 r4 g4 Xm Hw HSW;have HR:=O (show pG p (o.dW hs)=(uY p o.aN.o,rep 1)by
    unfold pG;rw[aq,aq]
    ·rfl
    ·show¬(o.what==9)=true;rw[t9];exact gQ
    ·show¬(o.all&&o.what==9)=true;rw[t9,Bool.and_false];exact gQ)
   have HP:=O (show dn base w3 B cs off v (uY p o.aN.o) u4 from di (aA (ae aS w3)) ⟨v4,I4.o,F4.o,FT4.o,AA4.o.eN⟩);go_wp2_with (first|((with_reducible refine cZ 30 ?_);refine aF rfl 30 (.tmp 4) (.tmp 43) rfl (w.heap.size+1) #[.int .i64 1,.string ⟨#[]⟩,.int .i64 0] rfl rfl _ bU R4.o (bf _ rfl) rfl cC ?_)|fail)
   refine aW (bw bD _ _ (w.heap.size+1) 30 #[.int .i64 1,.string ⟨#[]⟩,.int .i64 0] (0,0) _ rfl (a_ u4 (w.heap.size+1) _ _ _ _ R4.o) underlying30 rfl (bf _ rfl)) rfl ?_;unfold eK;rw[HR.o];exact⟨rfl,dC (HP.o.after il.o) py.o pn.o (bX _) R4.o eQ ag _⟩
 case false =>
  rw[iI]at sN;have HSW:=O (show∀U,Fr aS w3 U->aB 70 #[.pointer (some ⟨v.b,0,none⟩),.agg #[.bool o.aN.o.aG,.string o.aN.o.host,.int .i64 o.aN.o.port]] U (xy base U v.b v.gv v.wv p.bG p.waits o.aN.o)from fun U hU=>G0 base U v.b v.gv v.wv p.bG p.waits o.aN.o ((H3.o.dm hU).oK) ab)
  have Hw:=O (show∀U,Fr (dy v.b v.gv v.wv) w3 U->(U.cell? ⟨B,off,none⟩=some (.pointer (some ⟨v.b,0,none⟩))/\U.cell? ⟨w.heap.size+2,0,none⟩=some (.bool o.aN.o.aG)/\U.cell? ⟨w.heap.size+2,1,none⟩=some (.string o.aN.o.host)/\U.cell? ⟨w.heap.size+2,2,none⟩=some (.int .i64 o.aN.o.port))from fun U hU=>by
   have j1:=HA3.o.fr hU (fun hb=>Da.o (Or.inl hb));have j2:=hU.keep Te.o (fun hb=>by
    obtain⟨c,t,e,hk⟩:=H3.o.oK.ix hb;rw[Te.o]at e;cases e;revert hk;decide)
   exact⟨j1.cell0,by simp[World.cell?,j2]⟩)
  go_wp2_with fail
  rw[<-sN, <-HW3.o];clear a0 a1 a2 a3 a4 a5 a6 a7 a8 a9 jP jQ a12 jN jR jy j_ ka ke ko a20 a21 sN
  go_region_held3 (fun U=>Fr (dy v.b v.gv v.wv) w3 U/\U.cell? ⟨B,off,none⟩=some (.pointer (some ⟨v.b,0,none⟩))/\U.cell? ⟨w.heap.size+2,0,none⟩=some (.bool o.aN.o.aG)/\U.cell? ⟨w.heap.size+2,1,none⟩=some (.string o.aN.o.host)/\U.cell? ⟨w.heap.size+2,2,none⟩=some (.int .i64 o.aN.o.port)) ((refine(fun hU=>⟨hU,Hw.o _ hU⟩) ?_;first|exact aA (ae _ _)|assumption))
   ((first
    |(go_at_call 70;refine(HSW.o _ (aA (ae _ _))).mono ?_;rintro e u4 ⟨rfl,vQ⟩;have afQ:Fr (dy v.b v.gv v.wv) w3 u4:=(aA (ae _ _)).trans (by obtain⟨_,_,_,h,_⟩:=vQ;exact h))))
  obtain⟨v4,i4,f4,MJ,Xm⟩:=eW (H3.o.dm (aA (ae aS w3))) (HA3.o.dm (aA (ae aS w3))) Da.o vQ;have a4:=iy HA3.o Xm;have o4:=eM (H3.o.dm (aA (ae aS w3))) f4 (show w3.drew.heap[w.heap.size]?=_ from akS.o) jw ab;have r4:=eM (H3.o.dm (aA (ae aS w3))) f4 (show w3.drew.heap[w.heap.size+1]?=_ from afP.o) dM ab;have g4:=eM (H3.o.dm (aA (ae aS w3))) f4 (show w3.drew.heap[w.heap.size+2]?=_ from Te.o) p9 ab
  have I4:=O i4;have F4:=O f4;have FT4:=O MJ;have AA4:=O a4;have O4:=O o4;have R4:=O r4;have G4:=O g4;obtain⟨a0,a1,a2,a3,a4,a5,a6,a7,a8,a9,jP,jQ,a12,jN,jR,jy,j_,ka,ke,ko,a20,a21⟩:=eA o4 l_.o;clear vQ afQ i4 f4 MJ a4 o4 r4 g4 Xm Hw HSW;by_cases h9:o.what=9
  ·have t9:(o.what==9)=true:=by rw[h9];rfl
   clear h9;have HR:=O (show pG p (o.dW hs)=(Ou p o.aN.o,rep 1)by
    unfold pG;rw[aq,az]
    ·rfl
    ·show(o.what==9)=true;exact t9
    ·show¬(o.all&&o.what==9)=true;rw[iI,kI];exact gQ)
   have vg:=O (show∀U,Fr aS u4 U->aB 71 #[.pointer (some ⟨v4.k,0,none⟩),.agg #[.bool o.aN.o.aG,.string o.aN.o.host,.int .i64 o.aN.o.port]] U (ux base U v4.k v4.kv p.book (ez.wZ o.aN.o))from fun U hU=>Oy base U v4.k v4.kv p.book o.aN.o ((I4.o.dm hU).book) ab)
   have Hw:=O (show∀U,Fr (iH v4.k v4.kv) u4 U->(U.cell? ⟨B,off+1,none⟩=some (.pointer (some ⟨v4.k,0,none⟩))/\U.cell? ⟨w.heap.size+2,0,none⟩=some (.bool o.aN.o.aG)/\U.cell? ⟨w.heap.size+2,1,none⟩=some (.string o.aN.o.host)/\U.cell? ⟨w.heap.size+2,2,none⟩=some (.int .i64 o.aN.o.port))from fun U hU=>by
    have j1:=AA4.o.fr hU (fun hb=>I4.o.fq AA4.o.eN ag (Or.inr (Or.inl hb)));have j2:=hU.keep G4.o (fun hb=>I4.o.fq G4.o p9 (Or.inr (Or.inl hb)));exact⟨j1.ib,by simp[World.cell?,j2]⟩)
   go_wp2_with fail
   clear a0 a1 a2 a3 a4 a5 a6 a7 a8 a9 jP jQ a12 jN jR jy j_ ka ke ko a20 a21
   go_region_held3 (fun U=>Fr (iH v4.k v4.kv) u4 U/\U.cell? ⟨B,off+1,none⟩=some (.pointer (some ⟨v4.k,0,none⟩))/\U.cell? ⟨w.heap.size+2,0,none⟩=some (.bool o.aN.o.aG)/\U.cell? ⟨w.heap.size+2,1,none⟩=some (.string o.aN.o.host)/\U.cell? ⟨w.heap.size+2,2,none⟩=some (.int .i64 o.aN.o.port)) ((refine(fun hU=>⟨hU,Hw.o _ hU⟩) ?_;first|exact aA (ae _ _)|assumption))
    ((first
     |(go_at_call 71;refine(vg.o _ (aA (ae _ _))).mono ?_;rintro e u5 ⟨rfl,FT⟩;have aqt:Fr (iH v4.k v4.kv) u4 u5:=(aA (ae _ _)).trans (by obtain⟨_,_,h,_⟩:=FT;exact h))))
   obtain⟨v5,i5,f5,MI,Xj⟩:=ph (I4.o.dm (aA (ae aS u4))) (AA4.o.dm (aA (ae aS u4))) (I4.o.fq AA4.o.eN ag) FT;have a5:=iy AA4.o Xj;have r5:=eM (I4.o.dm (aA (ae aS u4))) f5 (show u4.drew.heap[w.heap.size+1]?=_ from R4.o) dM ab;have g5:=eM (I4.o.dm (aA (ae aS u4))) f5 (show u4.drew.heap[w.heap.size+2]?=_ from G4.o) p9 ab;have DR:=O (MH base u5 B off _ v5 _ o.aN.o i5 a5 xL.o)
   have l0:u5.cell? ⟨w.heap.size+2,0,none⟩=some (.bool o.aN.o.aG):=by simp[World.cell?,g5]
   have l1:u5.cell? ⟨w.heap.size+2,1,none⟩=some (.string o.aN.o.host):=by simp[World.cell?,g5]
   have l2:u5.cell? ⟨w.heap.size+2,2,none⟩=some (.int .i64 o.aN.o.port):=by simp[World.cell?,g5]
   have I5:=O i5;have F5:=O f5;have FT5:=O MI;have R5:=O r5;unfold gG.cells at DR;clear FT aqt i5 f5 MI a5 r5 g5 Xj Hw vg;go_wp2_with fail
   refine DR.o.mono ?_;rintro e u6⟨rfl,hp6⟩;have J1:=O (show u6.heap[w.heap.size+1]?=_ from eM I5.o (by obtain⟨_,_,h,_⟩:=hp6;exact h) R5.o dM ab);have HP:=O (show dn base w3 B cs off v (Ou p o.aN.o) u6 from di (aA (ae aS w3)) (gP F4.o FT4.o (di (aA (ae aS u4)) (gP F5.o FT5.o hp6))));clear DR hp6 l0 l1 l2
   go_wp2_with (first|((with_reducible refine cZ 30 ?_);refine aF rfl 30 (.tmp 4) (.tmp 43) rfl (w.heap.size+1) #[.int .i64 1,.string ⟨#[]⟩,.int .i64 0] rfl rfl _ bU J1.o (bf _ rfl) rfl cC ?_)|fail)
   refine aW (bw bD _ _ (w.heap.size+1) 30 #[.int .i64 1,.string ⟨#[]⟩,.int .i64 0] (0,0) _ rfl (a_ u6 (w.heap.size+1) _ _ _ _ J1.o) underlying30 rfl (bf _ rfl)) rfl ?_;unfold eK;rw[HR.o];exact⟨rfl,dC (HP.o.after il.o) py.o pn.o (bX _) J1.o eQ ag _⟩
  ·have t9:(o.what==9)=false:=aO.2 h9;clear h9;have HR:=O (show pG p (o.dW hs)=(uY p o.aN.o,rep 1)by
    unfold pG;rw[aq,aq]
    ·rfl
    ·show¬(o.what==9)=true;rw[t9];exact gQ
    ·show¬(o.all&&o.what==9)=true;rw[t9,Bool.and_false];exact gQ)
   have HP:=O (show dn base w3 B cs off v (uY p o.aN.o) u4 from di (aA (ae aS w3)) ⟨v4,I4.o,F4.o,FT4.o,AA4.o.eN⟩);go_wp2_with (first|((with_reducible refine cZ 30 ?_);refine aF rfl 30 (.tmp 4) (.tmp 43) rfl (w.heap.size+1) #[.int .i64 1,.string ⟨#[]⟩,.int .i64 0] rfl rfl _ bU R4.o (bf _ rfl) rfl cC ?_)|fail)
   refine aW (bw bD _ _ (w.heap.size+1) 30 #[.int .i64 1,.string ⟨#[]⟩,.int .i64 0] (0,0) _ rfl (a_ u4 (w.heap.size+1) _ _ _ _ R4.o) underlying30 rfl (bf _ rfl)) rfl ?_;unfold eK;rw[HR.o];exact⟨rfl,dC (HP.o.after il.o) py.o pn.o (bX _) R4.o eQ ag _⟩
theorem Tf(o:iE):(cO o).1=0\/(cO o).1=1\/(cO o).1=4\/(cO o).1=7\/(cO o).1=8\/(cO o).1=10:=by
 unfold cO;split
 ·split
  ·simp
  ·split
   ·simp
   ·split
    ·simp
    ·split
     ·simp
     ·split
      ·simp
      ·split<;>simp
 ·simp
theorem lr.take{f:dD}(h:lr x)(g:lr f)(part:Int)(c:Nat):lr (kh x f part c):=by
 unfold kh;split
 ·refine⟨⟨fun k=>?_,?_⟩,fun k=>?_,fun k=>?_⟩
  ·show ny (if k=part.toNat then i_ c (x.part k) (f.part k)else x.part k);have a:=h.ok.part k;have b:=g.ok.part k;split
   ·unfold i_;cases c.testBit 0<;>cases c.testBit 1<;>cases c.testBit 2<;>exact⟨by first|exact a.uniq|exact b.uniq,by first|exact a.nat|exact b.nat,by first|exact a.sZ.1|exact b.sZ.1,by first|exact a.sZ.2.1|exact b.sZ.2.1,by first|exact a.sZ.2.2.1|exact b.sZ.2.2.1,by first|exact a.sZ.2.2.2|exact b.sZ.2.2.2⟩
   ·exact a
  ·show 0<=(if c.testBit 3=true then f.now else x.now)/\(if c.testBit 3=true then f.now else x.now)<=1099511627776;split
   ·exact g.ok.now
   ·exact h.ok.now
  ·show si (if k=part.toNat then i_ c (x.part k) (f.part k)else x.part k);have a:=h.sm k;have b:=g.sm k;split
   ·unfold i_;cases c.testBit 0<;>exact⟨by first|exact a.bG|exact b.bG,by first|exact a.waits|exact b.waits⟩
   ·exact a
  ·show mO (if k=part.toNat then i_ c (x.part k) (f.part k)else x.part k);have a:=h.path k;have b:=g.path k;split
   ·unfold i_;cases c.testBit 0
    ·exact fun y hy=>a y hy
    ·exact fun y hy=>b y hy
   ·exact a
 ·exact h
def Pv(n i:Nat):cY:=⟨n+1+2*i,.slice none 0 0,.slice none 0 0,n+2+2*i,.slice none 0 0,.slice none 0 0⟩
def abl(n k i:Nat):aZ:=if i<k then(Pv n i).cells else [.pointer none,.pointer none,.slice none 0 0]
def Tq(n k:Nat):aZ:=abl n k 0++(abl n k 1++(abl n k 2++(abl n k 3++[.int .i64 0])))
structure E7 (w:World) (k:Nat) (W:World):Prop where
 fr:Fr aS w W
 eN:W.heap[w.heap.size]?=some (.cells (Tq w.heap.size k).toArray 86 (0,0))
 oK:∀i,i<k->W.heap[w.heap.size+1+2*i]?=some (.cells #[.slice none 0 0,.slice none 0 0] 89 (0,0))
 book:∀i,i<k->W.heap[w.heap.size+2+2*i]?=some (.cells #[.slice none 0 0] 92 (0,0))
 size:W.heap.size=w.heap.size+1+2*k
theorem Tr(n k:Nat)(hk:k<4):(((Tq n k).set (k*3) (.pointer (some ⟨n+1+2*k,0,none⟩))).set (k*3+1) (.pointer (some ⟨n+2+2*k,0,none⟩))).set (k*3+2) (.slice none 0 0)=Tq n (k+1):=by
 match k,hk with
 |0,_=>rfl
 |1,_=>rfl
 |2,_=>rfl
 |3,_=>rfl
theorem E7.step(h:E7 w k W)(hk:k<4):E7 w (k+1) (((((W.alloc (.cells #[.slice none 0 0,.slice none 0 0] 89)).alloc (.cells #[.slice none 0 0] 92)).setCell ⟨w.heap.size,k*3,none⟩ (.pointer (some ⟨W.heap.size,0,none⟩))).setCell ⟨w.heap.size,k*3+1,none⟩ (.pointer (some ⟨W.heap.size+1,0,none⟩))).setCell ⟨w.heap.size,k*3+2,none⟩ (.slice none 0 0)):=by
 obtain⟨V,hV⟩:∃V,V=(W.alloc (.cells #[.slice none 0 0,.slice none 0 0] 89)).alloc (.cells #[.slice none 0 0] 92):=⟨_,rfl⟩;have hf:Fr aS W V:=by rw[hV];exact((ae aS W).alloc _).alloc _
 have yd:V.heap[W.heap.size]?=some (.cells #[.slice none 0 0,.slice none 0 0] 89 (0,0)):=by rw[hV];exact((ae aS _).alloc _).keep (aC _ _) id
 have N7:V.heap[W.heap.size+1]?=some (.cells #[.slice none 0 0] 92 (0,0)):=by
  have h:=aC (W.alloc (.cells #[.slice none 0 0,.slice none 0 0] 89)) (.cells #[.slice none 0 0] 92);rw[bP]at h;rw[hV];exact h
 have hvs:V.heap.size=W.heap.size+2:=by rw[hV];simp
 rw[<-hV];have qm:=hf.keep h.eN id;have Fw:Fr (one w.heap.size) V (((V.setCell ⟨w.heap.size,k*3,none⟩ (.pointer (some ⟨W.heap.size,0,none⟩))).setCell ⟨w.heap.size,k*3+1,none⟩ (.pointer (some ⟨W.heap.size+1,0,none⟩))).setCell ⟨w.heap.size,k*3+2,none⟩ (.slice none 0 0)) :=
  (((ae (one w.heap.size) V).setCell (p:=⟨w.heap.size,k*3,none⟩) (fun _=>rfl) _).setCell (p:=⟨w.heap.size,k*3+1,none⟩) (fun _=>rfl) _).setCell (p:=⟨w.heap.size,k*3+2,none⟩) (fun _=>rfl) _
 have e1:=cq qm (k*3) (.pointer (some ⟨W.heap.size,0,none⟩));have e2:=cq e1 (k*3+1) (.pointer (some ⟨W.heap.size+1,0,none⟩));have e3:=cq e2 (k*3+2) (.slice none 0 0);have xS:=h.size;have Qw:=Tr w.heap.size k hk;rw[show w.heap.size+1+2*k=W.heap.size from ab,show w.heap.size+2+2*k=W.heap.size+1 from ab]at Qw;refine⟨?_,?_,fun i hi=>?_,fun i hi=>?_,?_⟩
 ·exact(((h.fr.trans hf).gN (p:=⟨w.heap.size,k*3,none⟩) (ay _) _).gN (p:=⟨w.heap.size,k*3+1,none⟩) (ay _) _).gN (p:=⟨w.heap.size,k*3+2,none⟩) (ay _) _
 ·rw[e3, <-Qw];simp
 ·refine Fw.keep ?_ (fun e=>by have e':w.heap.size+1+2*i=w.heap.size:=e;omega);by_cases Nd:i<k
  ·exact hf.keep (h.oK i Nd) id
  ·rw[show w.heap.size+1+2*i=W.heap.size from ab];exact yd
 ·refine Fw.keep ?_ (fun e=>by have e':w.heap.size+2+2*i=w.heap.size:=e;omega);by_cases Nd:i<k
  ·exact hf.keep (h.book i Nd) id
  ·rw[show w.heap.size+2+2*i=W.heap.size+1 from ab];exact N7
 ·have e:(((V.setCell ⟨w.heap.size,k*3,none⟩ (.pointer (some ⟨W.heap.size,0,none⟩))).setCell ⟨w.heap.size,k*3+1,none⟩ (.pointer (some ⟨W.heap.size+1,0,none⟩))).setCell ⟨w.heap.size,k*3+2,none⟩ (.slice none 0 0)).heap.size=V.heap.size:=by simp[World.setCell]
  rw[e];omega
theorem E7.done(h:E7 w 4 W)(hb:base<=w.heap.size):cE base W w.heap.size (Pv w.heap.size) yW:=by
 refine⟨hb,h.eN,fun i hi=>⟨⟨?_,h.oK i hi,⟨[],dB _ _ _ _,.nil⟩,⟨[],dB _ _ _ _,.nil⟩⟩,⟨?_,h.book i hi,dB _ _ _ _⟩,dB _ _ _ _⟩,fun i j hi hj Rl k hk IX=>?_⟩
 ·show base<=w.heap.size+1+2*i;omega
 ·show base<=w.heap.size+2+2*i;omega
 ·have key:∀a,(Pv w.heap.size a).kn k->k=w.heap.size+1+2*a\/k=w.heap.size+2+2*a:=by
   rintro a(q|q|q)
   ·rcases q with q|q|q
    ·exact Or.inl q
    ·simp[Pv,own,Value.ownBlock]at q
    ·simp[Pv,own,Value.ownBlock]at q
   ·rcases q with q|q
    ·exact Or.inr q
    ·simp[Pv,own,Value.ownBlock]at q
   ·simp[Pv,own,Value.ownBlock]at q
  have h1:=key i hk;have h2:=key j IX;omega
def ak2(w:World)(t:Value)(wr:World):Prop:=∃k:Nat,k<=4/\t=.int .i64 k/\E7 w k wr
theorem JF(w:World):aB 13 #[] w fun e w'=>∃B pv,e=.returned (.pointer (some ⟨B,0,none⟩))/\(∀base,base<=w.heap.size->cE base w' B pv yW)/\Fr aS w w':=by
 have h0:E7 w 0 (w.alloc (.cells #[.pointer none,.pointer none,.slice none 0 0,.pointer none,.pointer none,.slice none 0 0,.pointer none,.pointer none,.slice none 0 0,.pointer none,.pointer none,.slice none 0 0,.int .i64 0] 86)) :=
  ⟨(ae aS w).alloc _,aC _ _,fun i hi=>absurd hi (bV i),fun i hi=>absurd hi (bV i),aR⟩
 have H0:=O h0;clear h0;go_enter func13,ntmps13;go_wp2_with fail
 go_loopw[5] (ak2 w) (fun i _=>4-(intOf i).toNat)
 case atStart=>exact⟨0,aL _,rfl,H0.o⟩
 case round =>
  obtain⟨k,hk,rfl,hn⟩:=hrel;by_cases fe:k<4
  ·have pE:(k:Int)<4:=ab;have HN:=O (hn.step fe);have hb:=hn.eN;have Cy:w.heap.size<wr.heap.size:=bq hb;have OC:¬(k:Int)<0:=ab;have apL:(0:Int)<=(k:Int):=ab;have MP:=(((ae aS wr).alloc (.cells #[.slice none 0 0,.slice none 0 0] 89)).alloc (.cells #[.slice none 0 0] 92)).keep hb id
   obtain⟨q0,q1,q2⟩:(Tq w.heap.size k)[k*3]?=some (.pointer none)/\(Tq w.heap.size k)[k*3+1]?=some (.pointer none)/\(Tq w.heap.size k)[k*3+2]?=some (.slice none 0 0):=by
    match k,fe with
    |0,_=>exact⟨rfl,rfl,rfl⟩
    |1,_=>exact⟨rfl,rfl,rfl⟩
    |2,_=>exact⟨rfl,rfl,rfl⟩
    |3,_=>exact⟨rfl,rfl,rfl⟩
   have c0:((wr.alloc (.cells #[.slice none 0 0,.slice none 0 0] 89)).alloc (.cells #[.slice none 0 0] 92)).cell? ⟨w.heap.size,k*3,none⟩=some (.pointer none):=by simp[World.cell?,MP,q0]
   have c1:((wr.alloc (.cells #[.slice none 0 0,.slice none 0 0] 89)).alloc (.cells #[.slice none 0 0] 92)).cell? ⟨w.heap.size,k*3+1,none⟩=some (.pointer none):=by simp[World.cell?,MP,q1]
   have c2:((wr.alloc (.cells #[.slice none 0 0,.slice none 0 0] 89)).alloc (.cells #[.slice none 0 0] 92)).cell? ⟨w.heap.size,k*3+2,none⟩=some (.slice none 0 0):=by simp[World.cell?,MP,q2]
   have f0:∀j,((wr.alloc (.cells #[.slice none 0 0,.slice none 0 0] 89)).alloc (.cells #[.slice none 0 0] 92)).frozen? ⟨w.heap.size,j,none⟩=false:=fun j=>by simp[World.frozen?,MP]
   have f1:=f0 (k*3);have f2:=f0 (k*3+1);have f3:=f0 (k*3+2);have hx:=HN;clear hn H0 MP q0 q1 q2 f0 hb;go_wp2_with (first|((with_reducible refine cZ 83 ?_);have Pk:=hx;clear hx Pk;generalize (wr.alloc (.cells #[.slice none 0 0,.slice none 0 0] 89)).alloc (.cells #[.slice none 0 0] 92)=W5 at *)|fail)
   go_roundw
   case rel=>exact⟨k+1,ab,bg,HN.o⟩
   case measure=>simp[intOf];omega
  ·have Ld:k=4:=ab;subst Ld;have HD:=O (fun base hb=>hn.done (base:=base) hb);have qD:=O hn.fr;clear hn H0;go_wp2;go_ret;exact⟨_,_,rfl,HD.o,qD.o⟩
