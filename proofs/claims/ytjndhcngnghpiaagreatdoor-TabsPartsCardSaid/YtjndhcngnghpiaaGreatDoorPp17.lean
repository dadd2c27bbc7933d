/- Lemmas for the law's walk. -/
import Derived.Test.YtjndhcngnghpiaaGreatDoorPp26
import Derived.Test.YtjndhcngnghpiaaGreatDoorPp25
import Derived.Test.YtjndhcngnghpiaaGreatDoorPp27
set_option maxRecDepth 100000
set_option maxHeartbeats 16000000
set_option linter.unusedSimpArgs false
namespace Go.Proofs.YtjndhcngnghpiaaGreatDoor
open Go.Proofs.Tryz
open Go.RowKit
variable {p i b o n T k j B:Nat} {w U:World} {u v:Value} {S:dB} {cs:a_} {t:iI} {a:jx} {c:bW} {x:ed} {l:List (gz×Int)}
structure ql where
 o:jI
 hs:List gT
 sp:Value
def pU(r:kq):a_:=[.int .i64 r.what,.string r.head,.int .i64 r.cert]
def kJ(f:Nat->Nat->Int):a_:=[.int .i64 (f 0 0),.int .i64 (f 0 1),.int .i64 (f 0 2),.int .i64 (f 0 3),.int .i64 (f 1 0),.int .i64 (f 1 1),.int .i64 (f 1 2),.int .i64 (f 1 3),.int .i64 (f 2 0),.int .i64 (f 2 1),.int .i64 (f 2 2),.int .i64 (f 2 3),.int .i64 (f 3 0),.int .i64 (f 3 1),.int .i64 (f 3 2),.int .i64 (f 3 3)]
def mU(x:vR)(v:ql):a_:=.int .i64 x.does :: (v.o.cells++(.int .i64 x.fails :: .int .i64 x.mr :: v.sp :: (kJ x.num++pU x.fP)))
theorem pV(x:vR)(v:ql):(mU x v).length=45:=rfl
theorem nr(f:Nat->Nat->Int):(kJ f).length=16:=rfl
theorem Om(f:Nat->Nat->Int)(hp:p<4)(hi:i<4):(kJ f)[p*4+i]?=some (.int .i64 (f p i)):=by
 rcases(show p=0\/p=1\/p=2\/p=3 from ab)with rfl|rfl|rfl|rfl<;>rcases(show i=0\/i=1\/i=2\/i=3 from ab)with rfl|rfl|rfl|rfl<;>rfl
structure fT (U:World) (T B:Nat) (g:Nat->ql) (sv:Value) (t:iI):Prop where
 eK:∃cs,U.heap[T]?=some (.cells cs 78 (0,0))/\cs.size=289
 main:U.cell? ⟨T,0,none⟩=some (.pointer (some ⟨B,0,none⟩))
 num:U.rangeAt T 1 (kJ t.num)
 tab:∀n,n<6->U.rangeAt T (17+n*45) (mU (t.tab n) (g n))
 steps:U.cell? ⟨T,287,none⟩=some (.int .i64 t.steps)
 st:U.cell? ⟨T,288,none⟩=some sv
section
variable {U U' : World} {T B : Nat} {g : Nat → ql} {sv : Value} {t : iI}
theorem nI{p:Addr}(h:w.cell? p=some u)(hf:Fr S w U)(hn:¬S p.block):U.cell? p=some u:=by
 unfold World.cell? at h ⊢;cases hb:w.heap[p.block]? with
 |none=>rw[hb]at h;cases h
 |some o=>rw[hb]at h;rw[hf.keep hb hn];exact h
theorem pF(h:w.rangeAt b o cs)(hf:Fr S w U)(hn:¬S b):U.rangeAt b o cs:=fun j v hv=>nI (h j v hv) hf hn
theorem fT.fr(h:fT U T B g sv t)(hf:Fr S U U')(hn:¬S T):fT U' T B g sv t:=by
 obtain⟨cs,hb,hs⟩:=h.eK;exact⟨⟨cs,hf.keep hb hn,hs⟩,nI h.main hf hn,pF h.num hf hn,fun n hl=>pF (h.tab n hl) hf hn,nI h.steps hf hn,nI h.st hf hn⟩
theorem fT.lt(h:fT U T B g sv t):T<U.heap.size:=by obtain⟨cs,hb,_⟩:=h.eK;exact bg hb
theorem fT.there(h:fT U T B g sv t)(hn:o+n<=289):U.there T o n:=by
 obtain⟨cs,hb,hs⟩:=h.eK;intro j hj;have hl:o+j<cs.size:=ab;exact⟨by simp[World.cell?,hb,hl],by simp[World.frozen?,hb]⟩
theorem fT.free(h:fT U T B g sv t)(k:Nat):U.frozen? ⟨T,k,none⟩=false:=by
 obtain⟨cs,hb,_⟩:=h.eK;simp[World.frozen?,hb]
theorem lz(T:Nat)(ty:TypeId)(n:Nat):∀(vs:a_) (o:Nat) (U:World),(∃cs,U.heap[T]?=some (.cells cs ty (0,0))/\cs.size=n)->∃cs,(U.setCells T o vs).heap[T]?=some (.cells cs ty (0,0))/\cs.size=n
 |[],_,_,h=>h
 |v :: r,o,U,⟨cs,hb,hs⟩=>by
  rw[World.setCells];exact lz T ty n r (o+1) _ ⟨_,cg hb o v,by simpa using hs⟩
theorem mz{a:World}(T:Nat):∀(vs:a_) (o:Nat) (U:World),Fr (one T) a U->Fr (one T) a (U.setCells T o vs)
 |[],_,_,h=>h
 |v :: r,o,U,h=>by
  rw[World.setCells];exact mz T r (o+1) _ (h.setCell (p:=⟨T,o,none⟩) (fun _=>rfl) v)
theorem eS{vs:a_}(h:U.cell? ⟨T,k,none⟩=some u)(Wz:k<o\/o+vs.length<=k):(U.setCells T o vs).cell? ⟨T,k,none⟩=some u:=by
 rw[World.cell?_setCells_out T vs o U ⟨T,k,none⟩ (fun _ _=>Wz)];exact h
theorem fT.UC(h:fT U T B g sv t)(hn:n<6)(x:vR)(v:ql):fT (U.setCells T (17+n*45) (mU x v)) T B (fun i=>if i=n then v else g i) sv (t.put n x)/\Fr (one T) U (U.setCells T (17+n*45) (mU x v)):=by
 have hl:=pV x v;refine⟨⟨lz T _ _ _ _ _ h.eK,eS h.main (Or.inl ab),bX h.num _ _ _ (Or.inr (Or.inl (by rw[nr];omega))),fun m hm=>?_,eS h.steps (Or.inr ab),eS h.st (Or.inr ab)⟩,mz T _ _ _ (ae _ _)⟩;by_cases e:m=n
 ·subst e;show World.rangeAt _ T (17+m*45) (mU (if m=m then x else t.tab m) (if m=m then v else g m));rw[aB rfl,aB rfl];exact World.rangeAt_setCells_same _ _ _ _ (h.there (by rw[hl];omega))
 ·show World.rangeAt _ T (17+m*45) (mU (if m=n then x else t.tab m) (if m=n then v else g m));rw[ay e,ay e];exact bX (h.tab m hm) _ _ _ (by
   right;rw[hl,pV];rcases fD m n with q|q
   ·left;omega
   ·right;omega)
theorem Fu(h:U.rangeAt T o cs)(hj:j<cs.length):(U.setCell ⟨T,o+j,none⟩ v).rangeAt T o (cs.set j v):=by
 intro k u hk;have hc:=h j _ (List.getElem?_eq_getElem hj);by_cases e:k=j
 ·subst e;rw[List.getElem?_set_self hj]at hk;cases hk;exact World.cell?_setCell_same' U ⟨T,o+k,none⟩ _ (by rw[hc];rfl)
 ·rw[List.getElem?_set_ne (kE e)]at hk;rw[World.cell?_setCell_other U ⟨T,o+j,none⟩ ⟨T,o+k,none⟩ v (fun q=>e (by injection q with q1 q2;omega))];exact h k u hk
theorem fT.BL(h:fT U T B g sv t)(hn:n<6)(hj:j<45)(v:Value){x:vR}{w:ql}(hx:(mU (t.tab n) (g n)).set j v=mU x w):fT (U.setCell ⟨T,17+n*45+j,none⟩ v) T B (fun i=>if i=n then w else g i) sv (t.put n x)/\Fr (one T) U (U.setCell ⟨T,17+n*45+j,none⟩ v):=by
 have hl:([v]:a_).length=1:=rfl;refine⟨⟨lz T _ _ [v] _ _ h.eK,eS (vs:=[v]) h.main (Or.inl ab),bX h.num T (17+n*45+j) [v] (Or.inr (Or.inl (by rw[nr];omega))),fun m hm=>?_,eS (vs:=[v]) h.steps (Or.inr ab),eS (vs:=[v]) h.st (Or.inr ab)⟩,mz T [v] _ _ (ae _ _)⟩;by_cases e:m=n
 ·subst e;show World.rangeAt _ T (17+m*45) (mU (if m=m then x else t.tab m) (if m=m then w else g m));rw[aB rfl,aB rfl, <-hx];exact Fu (h.tab m hm) (by rw[pV];exact hj)
 ·show World.rangeAt _ T (17+m*45) (mU (if m=n then x else t.tab m) (if m=n then w else g m));rw[ay e,ay e];exact bX (h.tab m hm) T (17+n*45+j) [v] (by
   right;rw[hl,pV];rcases fD m n with q|q
   ·left;omega
   ·right;omega)
theorem fT.Ka(h:fT U T B g sv t)(k:Int):fT (U.setCell ⟨T,287,none⟩ (.int .i64 k)) T B g sv {t with steps:=k}/\Fr (one T) U (U.setCell ⟨T,287,none⟩ (.int .i64 k)):=by
 refine⟨⟨lz T _ _ [_] _ _ h.eK,eS (vs:=[_]) h.main (Or.inl ag),bX h.num T 287 [_] (Or.inr (Or.inl (by rw[nr];decide))),fun m hm=>bX (h.tab m hm) T 287 [_] (Or.inr (Or.inl (by rw[pV];omega))),?_,eS (vs:=[_]) h.st (Or.inr (az _))⟩,mz T [_] _ _ (ae _ _)⟩;exact World.cell?_setCell_same' U ⟨T,287,none⟩ _ (by rw[h.steps];rfl)
theorem fT.UD(h:fT U T B g sv t)(v:Value)(s:List UB):fT (U.setCell ⟨T,288,none⟩ v) T B g v {t with ic:=s}/\Fr (one T) U (U.setCell ⟨T,288,none⟩ v):=by
 refine⟨⟨lz T _ _ [_] _ _ h.eK,eS (vs:=[_]) h.main (Or.inl ag),bX h.num T 288 [_] (Or.inr (Or.inl (by rw[nr];decide))),fun m hm=>bX (h.tab m hm) T 288 [_] (Or.inr (Or.inl (by rw[pV];omega))),eS (vs:=[_]) h.steps (Or.inl ag),?_⟩,mz T [_] _ _ (ae _ _)⟩;exact World.cell?_setCell_same' U ⟨T,288,none⟩ _ (by rw[h.st];rfl)
theorem fT.acT(h:fT U T B g sv t)(hp:p<4)(hi:i<4)(v:Int){f:Nat->Nat->Int}(hf:(kJ t.num).set (p*4+i) (.int .i64 v)=kJ f):fT (U.setCell ⟨T,1+(p*4+i),none⟩ (.int .i64 v)) T B g sv {t with num:=f}/\Fr (one T) U (U.setCell ⟨T,1+(p*4+i),none⟩ (.int .i64 v)):=by
 refine⟨⟨lz T _ _ [_] _ _ h.eK,eS (vs:=[_]) h.main (Or.inl ab),?_,fun m hm=>bX (h.tab m hm) T (1+(p*4+i)) [_] (Or.inr (Or.inr (by show 1+(p*4+i)+1<=_;omega))),eS (vs:=[_]) h.steps (Or.inr (by show 1+(p*4+i)+1<=_;omega)),eS (vs:=[_]) h.st (Or.inr (by show 1+(p*4+i)+1<=_;omega))⟩,mz T [_] _ _ (ae _ _)⟩;show World.rangeAt _ T 1 (kJ f);rw[<-hf];exact Fu h.num (by rw[nr];omega)
end
theorem step1(h:(t.tab n).does=1):stepT t n=({(t.put n {t.tab n with seen:=t.w,num:=t.num,does:=2})with steps:=t.steps+1},rep 0,false):=by unfold stepT;rw[aB h]
theorem step2(h:(t.tab n).does=2):stepT t n=({(t.put n {t.tab n with fP:=(nj (t.tab n).seen (t.tab n).op).2,seen:=(nj (t.tab n).seen (t.tab n).op).1,does:=3})with steps:=t.steps+1},rep 0,false):=by unfold stepT;rw[ay ab,aB h]
theorem aaC(h:(t.tab n).does=3):stepT t n=jh {t with steps:=t.steps+1} n:=by unfold stepT;rw[ay ab,ay ab]
theorem QT{b:jx}(h:∀c∈j_ a,c∉j_ b)(f:Nat->Nat->Int):qw a (vS b f)=qw a f:=by
 unfold qw vS;exact List.map_congr_left fun c hc=>ay (h c hc)
def wO(a b:jx)(n:Nat):jx:=if n=0 then a else b
structure sS (a b:jx) (t:iI):Prop where
 op:∀n,n<2->(t.tab n).does≠0->(t.tab n).op=wO a b n
 num:∀n,n<2->(t.tab n).does=2\/(t.tab n).does=3->qw (wO a b n) t.num=qw (wO a b n) (t.tab n).num
 re:∀n,n<2->(t.tab n).does<=3
theorem sS.new(a b:jx):sS a b uG:=⟨fun n _ h=>absurd rfl h,fun n _ h=>(by rcases h with h|h<;>cases h),fun _ _=>aW _⟩
theorem sS.begin{b:jx}(h:sS a b t)(hn:n<2)(h0:(t.tab n).does=0):sS a b (Aj t n (wO a b n)).1:=by
 have ho:xV (n:Int)=true:=by unfold xV;simp;omega
 unfold Aj;rw[aB ho,Int.toNat_natCast,aB h0];have e:({(t.put n {ib with does:=1,op:=wO a b n,mr:=t.steps+1})with steps:=t.steps+1}:iI).tab n={ib with does:=1,op:=wO a b n,mr:=t.steps+1}:=mV t n _;have e':∀m,m≠n->({(t.put n {ib with does:=1,op:=wO a b n,mr:=t.steps+1})with steps:=t.steps+1}:iI).tab m=t.tab m:=fun m hm=>G1 t _ hm;refine⟨fun m hm hd=>?_,fun m hm hd=>?_,fun m hm=>?_⟩
 ·by_cases q:m=n
  ·subst q;show(iI.tab _ m).op=_;rw[e]
  ·show(iI.tab _ m).op=_;have pY:=hd;rw[e' m q]at pY ⊢;exact h.op m hm pY
 ·by_cases q:m=n
  ·subst q;rw[e]at hd;rcases hd with hd|hd<;>cases hd
  ·rw[e' m q]at hd ⊢; exact h.num m hm hd
 ·by_cases q:m=n
  ·subst q;show(iI.tab _ m).does<=3;rw[e];exact(show 1<=3 from ag)
  ·show(iI.tab _ m).does<=3;rw[e' m q];exact h.re m hm
theorem sS.step{b:jx}(h:sS a b t)(qk:∀c∈j_ a,c∉j_ b)(hn:n<2)(h0:(t.tab n).does≠0):sS a b (stepT t n).1/\(stepT t n).2.2=decide ((t.tab n).does=3):=by
 have anT:∀m,m<2->m≠n->∀c∈j_ (wO a b m),c∉j_ (wO a b n):=by
  intro m hm hmn c hc PS;rcases(show(m=0/\n=1)\/(m=1/\n=0)from ab)with ⟨rfl,rfl⟩|⟨rfl,rfl⟩
  ·exact qk c hc PS
  ·exact qk c PS hc
 have h3:=h.re n hn;rcases(show(t.tab n).does=1\/(t.tab n).does=2\/(t.tab n).does=3 from ab)with g|g|g
 ·rw[step1 g,g];obtain⟨T,hT⟩:∃T,T=({(t.put n {t.tab n with seen:=t.w,num:=t.num,does:=2})with steps:=t.steps+1}:iI):=⟨_,rfl⟩;have e:T.tab n={t.tab n with seen:=t.w,num:=t.num,does:=2}:=by rw[hT];exact mV t n _
  have e':∀m,m≠n->T.tab m=t.tab m:=fun m hm=>by rw[hT];exact G1 t _ hm
  have en:T.num=t.num:=by rw[hT];rfl
  rw[<-hT];refine⟨⟨fun m hm hd=>?_,fun m hm hd=>?_,fun m hm=>?_⟩,rfl⟩
  ·by_cases q:m=n
   ·subst q;rw[e];exact h.op m hm h0
   ·rw[e' m q]at hd ⊢; exact h.op m hm hd
  ·rw[en];by_cases q:m=n
   ·subst q;rw[e]
   ·rw[e' m q]at hd ⊢; exact h.num m hm hd
  ·by_cases q:m=n
   ·subst q;rw[e];exact(show 2<=3 from ag)
   ·rw[e' m q];exact h.re m hm
 ·rw[step2 g,g];obtain⟨T,hT⟩:∃T,T=({(t.put n {t.tab n with fP:=(nj (t.tab n).seen (t.tab n).op).2,seen:=(nj (t.tab n).seen (t.tab n).op).1,does:=3})with steps:=t.steps+1}:iI):=⟨_,rfl⟩;have e:T.tab n={t.tab n with fP:=(nj (t.tab n).seen (t.tab n).op).2,seen:=(nj (t.tab n).seen (t.tab n).op).1,does:=3}:=by rw[hT];exact mV t n _
  have e':∀m,m≠n->T.tab m=t.tab m:=fun m hm=>by rw[hT];exact G1 t _ hm
  have en:T.num=t.num:=by rw[hT];rfl
  rw[<-hT];refine⟨⟨fun m hm hd=>?_,fun m hm hd=>?_,fun m hm=>?_⟩,rfl⟩
  ·by_cases q:m=n
   ·subst q;rw[e];exact h.op m hm h0
   ·rw[e' m q]at hd ⊢; exact h.op m hm hd
  ·rw[en];by_cases q:m=n
   ·subst q;rw[e];exact h.num m hm (Or.inl g)
   ·rw[e' m q]at hd ⊢; exact h.num m hm hd
  ·by_cases q:m=n
   ·subst q;rw[e];exact az 3
   ·rw[e' m q];exact h.re m hm
 ·rw[aaC g,g];have hv:=h.num n hn (Or.inr g);rw[<-h.op n hn h0]at hv;have hz:jh {t with steps:=t.steps+1} n=(iZ (if(dV (t.tab n).op).2 then{t with steps:=t.steps+1,w:=lu t.w (t.tab n).seen (t.tab n).op.part (dV (t.tab n).op).1,num:=vS (t.tab n).op t.num}else{t with steps:=t.steps+1}) n (t.tab n).fP,(t.tab n).fP,true):=by
   unfold jh;exact aB hv
  rw[hz];obtain⟨T,hT⟩:∃T,T=(if(dV (t.tab n).op).2 then{t with steps:=t.steps+1,w:=lu t.w (t.tab n).seen (t.tab n).op.part (dV (t.tab n).op).1,num:=vS (t.tab n).op t.num}else{t with steps:=t.steps+1}:iI):=⟨_,rfl⟩;have e':∀m,m≠n->(iZ T n (t.tab n).fP).tab m=t.tab m:=fun m hm=>by
   rw[Vf _ _ _ hm,hT];split<;>rfl
  have en:∀m,m<2->m≠n->qw (wO a b m) T.num=qw (wO a b m) t.num:=fun m hm hmn=>by
   rw[hT];split
   ·show qw (wO a b m) (vS (t.tab n).op t.num)=_;rw[h.op n hn h0];exact QT (anT m hm hmn) _
   ·rfl
  rw[<-hT];refine⟨⟨fun m hm hd=>?_,fun m hm hd=>?_,fun m hm=>?_⟩,rfl⟩
  ·by_cases q:m=n
   ·subst q;have pY:((iZ T m (t.tab m).fP).tab m).does≠0:=hd;rw[G2]at pY;exact absurd rfl pY
   ·have pY:((iZ T n (t.tab n).fP).tab m).does≠0:=hd;show((iZ T n (t.tab n).fP).tab m).op=_;rw[e' m q]at pY ⊢; exact h.op m hm pY
  ·by_cases q:m=n
   ·subst q;have pY:((iZ T m (t.tab m).fP).tab m).does=2\/((iZ T m (t.tab m).fP).tab m).does=3:=hd;rw[G2]at pY;rcases pY with pY|pY<;>cases pY
   ·have pY:((iZ T n (t.tab n).fP).tab m).does=2\/((iZ T n (t.tab n).fP).tab m).does=3:=hd;show qw _ T.num=qw _ ((iZ T n (t.tab n).fP).tab m).num;rw[e' m q]at pY ⊢;rw[en m hm q];exact h.num m hm pY
  ·by_cases q:m=n
   ·subst q;show((iZ T m (t.tab m).fP).tab m).does<=3;rw[G2];exact aW _
   ·show((iZ T n (t.tab n).fP).tab m).does<=3;rw[e' m q];exact h.re m hm
open Go.ChangeShapes Go.WideShapes Go.ChangeAt Go.RowKit Go.Deep
variable {H : Type} {enc : TypeId × Value → H} {W : World}
instance:Inhabited MvV:=⟨⟨0,0,(default:jI×List gT).1,[]⟩⟩
structure kZ (w:World):Prop where
 XM:wE w
 pw:wZ w
theorem kZ.fr{w':World}(h:kZ w)(hf:Fr aX w w'):kZ w':=⟨h.XM.fr hf,h.pw.fr hf⟩
def jM(base:Nat)(w:World)(B:Nat)(pv:Nat->dn)(r:ed×kq)(e:Ending)(w':World):Prop :=
 e=.returned r.2.val/\dy base w B pv r.1 w'
section
variable {base : Nat} {a w w' : World} {B : Nat} {pv : Nat → dn} {x : ed}
theorem dy.after(hf:Fr aX a w)(h:dy base w B pv x w'):dy base a B pv x w':=by
 obtain⟨IX,h1,h2,h3⟩:=h;refine⟨IX,h1,fN (S:=mo B pv) (hf.mono (fun _ _ h=>absurd h id)) h2 (fun _ _ h=>h),fun k hk=>?_⟩;rcases h3 k hk with h|h
 ·exact Or.inl h
 ·exact Or.inr (aH hf.size h)
theorem dy.then(h:dy base a B pv x w)(hf:Fr aX w w'):dy base a B pv x w':=by
 obtain⟨IX,h1,h2,h3⟩:=h;exact⟨IX,h1.dx hf,h2.step (T:=aX) hf (fun _ _ h=>absurd h id),h3⟩
theorem dy.row(h:dy base w B pv x w'){n:Nat}{old:bW}{t:TypeId}(oX:base<=w.heap.size)(hB:B<w.heap.size)(hn:w.heap.size<=n)(hr:w'.heap[n]?=some (.cells old t (0,0)))
  (ht:fj t)(hs:t≠9)(new:bW):dy base w B pv x (w'.setRow n new):=by
 obtain⟨IX,h1,h2,h3⟩:=h;have kx:Fr (one n) w' (w'.setRow n new):=(ae (one n) w').setRow (fun _=>rfl) _;have mJ:rJ base w' (one n):=by
  rintro k rfl _;exact⟨ab,fun c f e=>by rw[hr]at e;cases e;exact hs rfl⟩
 refine⟨IX,h1.fr kx mJ (fun i hi e=>?_),h2.step kx (fun k hk e=>?_),h3⟩
 ·have e':i=n:=e;subst e';rcases hi with rfl|⟨j,hj,hi⟩
  ·omega
  ·exact(h1.part j hj).fa hr ht hi
 ·have e':k=n:=e;omega
theorem nH(h:di base w B pv x){t:TypeId}{p:eD}(hi:i<4)(hp:cW base w B (iz pv x.now) (i*3) (pv i) p w')(hn:w.heap[n]?=some (.cells c t (0,0)))(ht:fj t)(hB:n≠B):w'.heap[n]?=some (.cells c t (0,0)):=by
 obtain⟨v',h1,h2,h3,h4⟩:=hp;exact eI (h.part i hi) h2 hn ht hB
end
theorem pT{o:jx}(hr:o.right=true)(hi:o.part=(i:Int))(hw:o.what≠10):nj x o=(x.set i (wk (x.part i) x.now o).1,(wk (x.part i) x.now o).2):=by
 rw[C7 hr hw,hi];rfl
theorem Ux{p:eD}{n:Int}{o:jx}(h:o.what=8\/o.what=9):wk p n o=rB p o:=by
 unfold wk;rcases h with h|h<;>rw[h]<;>rfl
theorem di.Dm{base:Nat}{pv:Nat->dn}(h:di base w B pv x){t:TypeId}(hn:w.heap[n]?=some (.cells c t (0,0)))(ht:fj t)(hw:t≠97):¬mo B pv n:=fun hk=>by
 rcases hk with rfl|⟨i,hi,hk⟩
 ·rw[h.eK]at hn;cases hn;exact hw rfl
 ·exact(h.part i hi).fa hn ht hk
abbrev cH := @dy.after
abbrev ew := @dy.row
def Bm(k:Nat):Value:=if k=0 then .nilIface else .iface 82 (.int .i64 k)
section
variable {U : World} {T B : Nat} {g : Nat → ql} {sv : Value} {t : iI}
theorem GM{n:Int}(h:xV n=true):∃i:Nat,n=(i:Int)/\i<6:=by
 unfold xV at h;simp only[cF,dM]at h;exact⟨n.toNat,ab,ab⟩
theorem UE(U:World)(T:Nat)(hi:i<6) :
  aE 28 #[.pointer (some ⟨T,0,none⟩),.int .i64 i] U fun e w'=>e=.returned (.tuple #[.pointer (some ⟨T,17+i*45,none⟩),.nilIface])/\w'=U:=by
 have h1:(i:Int)<6:=ab;have h0:¬(i:Int)<0:=ab;have h2:¬(6:Int)<=(i:Int):=ab;have h3:(0:Int)<=(i:Int):=ab;go_enter func28,ntmps28;go_wp2;go_ret2;exact⟨rfl,rfl⟩
theorem On(U:World)(T:Nat){n:Int}(hn:xV n=false) :
  aE 28 #[.pointer (some ⟨T,0,none⟩),.int .i64 n] U fun e w'=>e=.returned (.tuple #[.pointer none,Bm 2])/\w'=U:=by
 have hh:¬(0<=n/\n<6):=by
  intro hh;unfold xV at hn;simp[hh.1,hh.2]at hn
 clear hn;by_cases h0:n<0
 ·have h1:¬(0:Int)<=n:=ab;clear hh;go_enter func28,ntmps28;go_wp2;go_ret2;exact⟨rfl,rfl⟩
 ·have h1:(0:Int)<=n:=ab;have h4:(6:Int)<=n:=ab;have h5:¬n<6:=ab;clear hh;go_enter func28,ntmps28;go_wp2;go_ret2;exact⟨rfl,rfl⟩
end
def xh(base:Nat)(U:World)(ws:Nat->Option (Nat×ed)):Prop :=
 ∃pv:Nat->Nat->dn,(∀i B x,ws i=some (B,x)->di base U B (pv i) x)/\∀i j B x C y,i≠j->ws i=some (B,x)->ws j=some (C,y)->∀k,mo B (pv i) k->¬mo C (pv j) k
section
variable {base : Nat} {a U U' : World} {ws : Nat → Option (Nat × ed)}
theorem xh.dx(h:xh base U ws)(hf:Fr aX U U'):xh base U' ws:=by
 obtain⟨pv,h1,h2⟩:=h;exact⟨pv,fun i B x hi=>(h1 i B x hi).dx hf,h2⟩
theorem xh.sub{ws':Nat->Option (Nat×ed)}(h:xh base U ws)(hs:∀i p,ws' i=some p->ws i=some p):xh base U ws':=by
 obtain⟨pv,h1,h2⟩:=h;exact⟨pv,fun i B x hi=>h1 i B x (hs _ _ hi),fun i j B x C y OS hi hj=>h2 i j B x C y OS (hs _ _ hi) (hs _ _ hj)⟩
theorem xh.one(h:xh base U ws)(oX:base<=n){t:TypeId}(hb:U.heap[n]?=some (.cells c t (0,0)))(ht:fj t)(hw:t≠97)(hs:t≠9)(hf:Fr (one n) U U'):xh base U' ws:=by
 obtain⟨pv,h1,h2⟩:=h;refine⟨pv,fun i B x hi=>(h1 i B x hi).fr hf ?_ (fun k hk e=>?_),h2⟩
 ·rintro k rfl _;exact⟨oX,fun c f e=>by rw[hb]at e;cases e;exact hs rfl⟩
 ·cases(show k=n from e);exact(h1 i B x hi).Dm hb ht hw hk
theorem xh.at(h:xh base U ws)(hi:ws i=some (B,x)):∃pv,di base U B pv x:=by
 obtain⟨pv,h1,_⟩:=h;exact⟨pv i,h1 i B x hi⟩
def Kept(U U':World):Prop:=∃S:dB,Fr S U U'/\∀(n:Nat) (c:bW) (t:TypeId),U.heap[n]?=some (.cells c t (0,0))->fj t->t≠97->¬S n
theorem Kept.Yv(h:Fr aX U U'):Kept U U':=⟨aX,h,fun _ _ _ _ _ _ h=>h⟩
theorem Kept.rows(h:Kept U U'){e:TypeId}{xs:cX}(hr:OwnRows b e k U v xs)(ht:fj e)(hw:e≠97):OwnRows b e k U' v xs:=by
 obtain⟨S,hf,hs⟩:=h;refine hr.fr hf fun g hg=>?_;obtain⟨c,hc⟩:=hr.AE hg;exact hs g c e hc ht hw
theorem Kept.eK(h:Kept U U'){g:Nat->ql}{sv:Value}(hb:fT U T B g sv t):fT U' T B g sv t:=by
 obtain⟨S,hf,hs⟩:=h;obtain⟨c,hc,_⟩:=hb.eK;exact hb.fr hf (hs T c _ hc (by unfold fj;decide) ag)
theorem xh.act{f:FuncId}{args:bW}{R:Ending->Prop}(h:xh base U ws)(hf:Fr aX a U)(qk:a.heap.size<=base){i B:Nat}{x x':ed}(hi:ws i=some (B,x))
  (hc:∀pv,di base U B pv x->aE f args U fun e w'=>R e/\dy base U B pv x' w') :
  aE f args U fun e w'=>R e/\xh base w' (fun j=>if j=i then some (B,x')else ws j)/\Fr aX a w'/\Kept U w':=by
 obtain⟨pv,h1,h2⟩:=h;have g:=h1 i B x hi;refine(hc (pv i) g).mono fun e w' hh=>⟨hh.1,?_,hh.2.frame g hf qk,?_⟩
 ·obtain⟨IX,g1,g2,g3⟩:=hh.2;refine⟨fun j=>if j=i then IX else pv j,fun j C y hj=>?_,fun j k C y D z hjk hj hk q hq Kb=>?_⟩
  ·by_cases e:j=i
   ·simp only[aB e,dW,iB]at hj ⊢;obtain⟨rfl,rfl⟩:=hj;exact g1
   ·simp only[ay e]at hj ⊢;exact(h1 j C y hj).fr g2 g.off (fun k hk=>h2 j i C y B x e hj hi k hk)
  ·by_cases e:j=i
   ·have e':¬k=i:=fun e'=>hjk (e.trans e'.symm);simp only[aB e,ay e',dW,iB]at hj hk hq Kb;obtain⟨rfl,rfl⟩:=hj;rcases g3 q hq with r|r
    ·exact h2 k i D z B x e' hk hi q Kb r
    ·have:=(h1 k D z hk).je Kb;omega
   ·by_cases e':k=i
    ·simp only[aB e',ay e,dW,iB]at hj hk hq Kb;obtain⟨rfl,rfl⟩:=hk;rcases g3 q Kb with r|r
     ·exact h2 j i C y B x e hj hi q hq r
     ·have:=(h1 j C y hj).je hq;omega
    ·simp only[ay e',ay e]at hj hk hq Kb;exact h2 j k C y D z hjk hj hk q hq Kb
 ·obtain⟨IX,g1,g2,g3⟩:=hh.2;exact⟨_,g2,fun n c t hn ht hw=>g.Dm hn ht hw⟩
theorem xh.add(h:xh base U ws)(hf:Fr aX U U'){C:Nat}{qv:Nat->dn}{y:ed}(hc:di base U' C qv y)(hn:∀j,mo C qv j->U.heap.size<=j):xh base U' (fun j=>if j=i then some (C,y)else ws j):=by
 obtain⟨pv,h1,h2⟩:=h;refine⟨fun j=>if j=i then qv else pv j,fun j D z hj=>?_,fun j k D z E z' hjk hj hk q hq Kb=>?_⟩
 ·by_cases e:j=i
  ·simp only[aB e,dW,iB]at hj ⊢;obtain⟨rfl,rfl⟩:=hj;exact hc
  ·simp only[ay e]at hj ⊢;exact(h1 j D z hj).dx hf
 ·by_cases e:j=i
  ·have e':¬k=i:=fun e'=>hjk (e.trans e'.symm);simp only[aB e,ay e',dW,iB]at hj hk hq Kb;obtain⟨rfl,rfl⟩:=hj;have a1:=hn q hq;have a2:=(h1 k E z' hk).je Kb;omega
  ·by_cases e':k=i
   ·simp only[aB e',ay e,dW,iB]at hj hk hq Kb;obtain⟨rfl,rfl⟩:=hk;have a1:=hn q Kb;have a2:=(h1 j D z hj).je hq;omega
   ·simp only[ay e',ay e]at hj hk hq Kb;exact h2 j k D z E z' hjk hj hk q hq Kb
end
abbrev kK := @Kept.Yv
theorem acU(base:Nat)(w:World)(B:Nat)(pv:Nat->dn)(x:ed)(o:jI)(hs:List gT)(h:di base w B pv x)(hf:gM w o hs)(hi:nk x)(a:World)(sL:kZ a)(qk:a.heap.size<=base)(sM:Fr aX a w)(hr:(o.dX hs).right=false) :
  aE 30 #[.pointer (some ⟨B,0,none⟩),.agg o.cells.toArray] w (jM base w B pv (nj x (o.dX hs))):=by
 have uo:B<w.heap.size:=h.lt;have oX:=h.low;obtain⟨ah,ch,gu⟩:=hf.h_;obtain⟨w2,eC⟩:∃w2,w2=(w.alloc (.cells o.cells.toArray 33)).alloc (.cells bP 46):=⟨_,rfl⟩;have dF:Fr aX w w2:=by rw[eC];exact((ae aX w).alloc _).alloc _
 have k1:w2.heap[w.heap.size]?=some (.cells o.cells.toArray 33 (0,0)):=by rw[eC];exact((ae aX _).alloc _).keep (aC _ _) id
 have k2:w2.heap[w.heap.size+1]?=some (.cells bP 46 (0,0)):=by
  have h:=aC (w.alloc (.cells o.cells.toArray 33)) (.cells bP 46);rw[bK]at h;rw[eC];exact h
 have sN:=O (kV o hs w2 (hf.dx dF));have HH:=O (h.dx dF);have HF:=O (hf.dx dF);have lf:=O gu;have HI:=O hi;have fR:=O dF;have mD:=O k1;have qt:=O k2;have pS:=O (show base<=w.heap.size from ab);have wJ:=O oX;have oH:=O uo;have Qi:=O sL;have Qh:=O (sM.trans dF);have Qp:=O qk;rw[eC]at k1;rw[dN gu]at eC sN k1 ⊢;unfold bP at eC k1;have ow:=O eC;have uW:=O k1;clear eC gu dF k1 k2 h hf hi sL qk sM
 have HR:=O (show nj x (o.dX hs)=(x,rep 7)from Gy hr);rw[hr]at sN;clear hr;go_enter func30,ntmps30;go_wp2_with (first|((with_reducible refine dt 8 ?_);refine aJ rfl 33 (.tmp 3) rfl w.heap.size rfl _ _ (0,0) _ uW.o underlying33 rfl af ?_)|fail)
 rw[<-ow.o];refine sN.o.mono ?_;rintro e u⟨rfl,hu⟩;have HU:=O hu;have HP:=O (show dy base w B pv x u from cH fR.o (fx HH.o hu));have oN:=O (hu.keep qt.o id);clear hu uW;go_wp2_with (first|((with_reducible refine cU 46 ?_);refine aI rfl 46 (.tmp 4) (.tmp 11) rfl (w.heap.size+1) #[.int .i64 7,.string ⟨#[]⟩,.int .i64 0] rfl rfl _ bP oN.o (ba _ rfl) rfl bS ?_)|fail)
 refine aR (bj bB _ _ (w.heap.size+1) 46 #[.int .i64 7,.string ⟨#[]⟩,.int .i64 0] (0,0) _ rfl (aY _ (w.heap.size+1) _ _ _ _ oN.o) underlying46 rfl (ba _ rfl)) rfl ?_;unfold jM;rw[HR.o];exact⟨rfl,ew HP.o pS.o oH.o (bT _) oN.o dS ag _⟩
theorem Qq(base:Nat)(w:World)(B:Nat)(pv:Nat->dn)(x:ed)(o:jI)(hs:List gT)(h:di base w B pv x)(hf:gM w o hs)(hi:nk x)(a:World)(sL:kZ a)(qk:a.heap.size<=base)(sM:Fr aX a w)(hr:(o.dX hs).right=true)(hw:o.what=1) :
  aE 30 #[.pointer (some ⟨B,0,none⟩),.agg o.cells.toArray] w (jM base w B pv (nj x (o.dX hs))):=by
 have uo:B<w.heap.size:=h.lt;have oX:=h.low;obtain⟨ah,ch,gu⟩:=hf.h_;obtain⟨w2,eC⟩:∃w2,w2=(w.alloc (.cells o.cells.toArray 33)).alloc (.cells bP 46):=⟨_,rfl⟩;have dF:Fr aX w w2:=by rw[eC];exact((ae aX w).alloc _).alloc _
 have k1:w2.heap[w.heap.size]?=some (.cells o.cells.toArray 33 (0,0)):=by rw[eC];exact((ae aX _).alloc _).keep (aC _ _) id
 have k2:w2.heap[w.heap.size+1]?=some (.cells bP 46 (0,0)):=by
  have h:=aC (w.alloc (.cells o.cells.toArray 33)) (.cells bP 46);rw[bK]at h;rw[eC];exact h
 have sN:=O (kV o hs w2 (hf.dx dF));have HH:=O (h.dx dF);have HF:=O (hf.dx dF);have lf:=O gu;have HI:=O hi;have fR:=O dF;have mD:=O k1;have qt:=O k2;have pS:=O (show base<=w.heap.size from ab);have wJ:=O oX;have oH:=O uo;have Qi:=O sL;have Qh:=O (sM.trans dF);have Qp:=O qk;rw[eC]at k1;rw[dN gu]at eC sN k1 ⊢;unfold bP at eC k1;have ow:=O eC;have uW:=O k1;clear eC gu dF k1 k2 h hf hi sL qk sM
 obtain⟨i,uZ,zD⟩:∃i:Nat,o.aF.part=(i:Int)/\i<4:=by
  obtain⟨h0,h1⟩:=ja hr;have Ru:0<=o.aF.part:=h0;have PB:o.aF.part<4:=h1;exact⟨o.aF.part.toNat,ab,ab⟩
 have RM:(i:Int)<4:=ab;have rL:¬(i:Int)<0:=ab;have SM:¬(4:Int)<=(i:Int):=ab;have Pp:(0:Int)<=(i:Int):=ab;have sr:=O zD;have zE:=O uZ;obtain⟨r,Bl⟩:∃r,r=lq (x.part i) (o.dX hs):=⟨_,rfl⟩;have HR:=O (show nj x (o.dX hs)=(x.set i r.1,r.2)by rw[pT hr uZ (by show o.what≠10;omega),Bl,amR (show(o.dX hs).what=1 from hw)]);rw[hr]at sN
 have HM:=O (show∀U,Fr aX w2 U->aE 42 #[.pointer (some ⟨B,i*3,none⟩),.agg o.cells.toArray] U (eG base U B (iz pv x.now) (i*3) (pv i) r)from fun U hU=>by
  have h:=MF base U B (i*3) (iz pv x.now) (pv i) (x.part i) o hs ((HH.o.dx hU).part i sr.o) ((HH.o.dx hU).partAt sr.o) wJ.o (HF.o.dx hU) (HI.o.ok.part i) (HI.o.sm i) a Qi.o.XM Qp.o (Qh.o.trans hU);rw[<-Bl]at h;exact h)
 rw[dN lf.o]at HM;have HW:=O hw;clear hr hw Bl zD uZ;go_enter func30,ntmps30;go_wp2_with (first|((with_reducible refine dt 8 ?_);refine aJ rfl 33 (.tmp 3) rfl w.heap.size rfl _ _ (0,0) _ uW.o underlying33 rfl af ?_)|fail)
 rw[<-ow.o];refine sN.o.mono ?_;rintro e u⟨rfl,hu⟩;obtain⟨a0,a1,a2,a3,a4,a5,a6,a7,a8,a9,jy,jz,a12,jw,jA,jb,jJ,jK,jL,jT,a20,a21⟩:=eo (hu.keep mD.o id) lf.o;rw[zE.o]at a1;clear a0 a2 a3 a4 a5 a6 a7 a8 a9 jy jz a12 jw jA jb jJ jK jL jT a20 a21;have pW:=O (show∀n,Fr aX w2 (u.drewN n)from fun n=>dE n hu);clear hu uW;go_wp2_with fail
 go_quiet (fail);clear a1;have mA:=pW.o nq;generalize u.drewN nq=u1 at mA ⊢;have sO:=O mA;clear mA pW;have DP:=O (sO.o.keep mD.o id);rw[dN lf.o]at DP;obtain⟨a0,a1,a2,a3,a4,a5,a6,a7,a8,a9,jy,jz,a12,jw,jA,jb,jJ,jK,jL,jT,a20,a21⟩:=eo (sO.o.keep mD.o id) lf.o;rw[zE.o]at a1;have wN:=HW.o;rw[wN]at a0;clear wN;clear a1 a2 a3 a4 a5 a6 a7 a8 a9 jy jz a12 jw jA jb jJ jK jL jT a20 a21
 go_wp2_with (first|((with_reducible refine dt 24 ?_);refine aJ rfl 33 (.tmp 3) rfl w.heap.size rfl _ _ (0,0) _ DP.o underlying33 rfl af ?_)|fail)
 have sP:=sO.o;refine(HM.o _ sP).mono ?_;rintro e u5⟨rfl,hp⟩;unfold kq.val;have Kd:=sP.keep qt.o id;have oN:=O (nH (HH.o.dx sP) sr.o hp Kd dS ab);have HP:=O (show dy base w B pv (x.set i r.1) u5 from cH fR.o (cH sP (kh (HH.o.dx sP) sr.o hp)));clear hp Kd sP HM
 go_wp2_with (first|((with_reducible refine cU 46 ?_);refine aI rfl 46 (.tmp 4) (.tmp 25) rfl (w.heap.size+1) #[.int .i64 r.2.what,.string r.2.head,.int .i64 r.2.cert] rfl rfl _ bP oN.o (ba _ rfl) rfl bS ?_)|fail)
 refine aR (bj bB _ _ (w.heap.size+1) 46 #[.int .i64 r.2.what,.string r.2.head,.int .i64 r.2.cert] (0,0) _ rfl (aY _ (w.heap.size+1) _ _ _ _ oN.o) underlying46 rfl (ba _ rfl)) rfl ?_;unfold jM;rw[HR.o];exact⟨rfl,ew HP.o pS.o oH.o (bT _) oN.o dS ag _⟩
theorem MR(base:Nat)(w:World)(B:Nat)(pv:Nat->dn)(x:ed)(o:jI)(hs:List gT)(h:di base w B pv x)(hf:gM w o hs)(hi:nk x)(a:World)(sL:kZ a)(qk:a.heap.size<=base)(sM:Fr aX a w)(hr:(o.dX hs).right=true)(hw:o.what=2) :
  aE 30 #[.pointer (some ⟨B,0,none⟩),.agg o.cells.toArray] w (jM base w B pv (nj x (o.dX hs))):=by
 have uo:B<w.heap.size:=h.lt;have oX:=h.low;obtain⟨ah,ch,gu⟩:=hf.h_;obtain⟨w2,eC⟩:∃w2,w2=(w.alloc (.cells o.cells.toArray 33)).alloc (.cells bP 46):=⟨_,rfl⟩;have dF:Fr aX w w2:=by rw[eC];exact((ae aX w).alloc _).alloc _
 have k1:w2.heap[w.heap.size]?=some (.cells o.cells.toArray 33 (0,0)):=by rw[eC];exact((ae aX _).alloc _).keep (aC _ _) id
 have k2:w2.heap[w.heap.size+1]?=some (.cells bP 46 (0,0)):=by
  have h:=aC (w.alloc (.cells o.cells.toArray 33)) (.cells bP 46);rw[bK]at h;rw[eC];exact h
 have sN:=O (kV o hs w2 (hf.dx dF));have HH:=O (h.dx dF);have HF:=O (hf.dx dF);have lf:=O gu;have HI:=O hi;have fR:=O dF;have mD:=O k1;have qt:=O k2;have pS:=O (show base<=w.heap.size from ab);have wJ:=O oX;have oH:=O uo;have Qi:=O sL;have Qh:=O (sM.trans dF);have Qp:=O qk;rw[eC]at k1;rw[dN gu]at eC sN k1 ⊢;unfold bP at eC k1;have ow:=O eC;have uW:=O k1;clear eC gu dF k1 k2 h hf hi sL qk sM
 obtain⟨i,uZ,zD⟩:∃i:Nat,o.aF.part=(i:Int)/\i<4:=by
  obtain⟨h0,h1⟩:=ja hr;have Ru:0<=o.aF.part:=h0;have PB:o.aF.part<4:=h1;exact⟨o.aF.part.toNat,ab,ab⟩
 have RM:(i:Int)<4:=ab;have rL:¬(i:Int)<0:=ab;have SM:¬(4:Int)<=(i:Int):=ab;have Pp:(0:Int)<=(i:Int):=ab;have sr:=O zD;have zE:=O uZ;obtain⟨r,Bl⟩:∃r,r=jv (x.part i) (o.dX hs):=⟨_,rfl⟩;have HR:=O (show nj x (o.dX hs)=(x.set i r.1,r.2)by rw[pT hr uZ (by show o.what≠10;omega),Bl,amS (show(o.dX hs).what=2 from hw)]);rw[hr]at sN
 have HM:=O (show∀U,Fr aX w2 U->aE 43 #[.pointer (some ⟨B,i*3,none⟩),.agg o.cells.toArray] U (eG base U B (iz pv x.now) (i*3) (pv i) r)from fun U hU=>by
  have h:=Km base U B (i*3) (iz pv x.now) (pv i) (x.part i) o hs ((HH.o.dx hU).part i sr.o) ((HH.o.dx hU).partAt sr.o) wJ.o (HF.o.dx hU) (HI.o.ok.part i);rw[<-Bl]at h;exact h)
 rw[dN lf.o]at HM;have HW:=O hw;clear hr hw Bl zD uZ;go_enter func30,ntmps30;go_wp2_with (first|((with_reducible refine dt 8 ?_);refine aJ rfl 33 (.tmp 3) rfl w.heap.size rfl _ _ (0,0) _ uW.o underlying33 rfl af ?_)|fail)
 rw[<-ow.o];refine sN.o.mono ?_;rintro e u⟨rfl,hu⟩;obtain⟨a0,a1,a2,a3,a4,a5,a6,a7,a8,a9,jy,jz,a12,jw,jA,jb,jJ,jK,jL,jT,a20,a21⟩:=eo (hu.keep mD.o id) lf.o;rw[zE.o]at a1;clear a0 a2 a3 a4 a5 a6 a7 a8 a9 jy jz a12 jw jA jb jJ jK jL jT a20 a21;have pW:=O (show∀n,Fr aX w2 (u.drewN n)from fun n=>dE n hu);clear hu uW;go_wp2_with fail
 go_quiet (fail);clear a1;have mA:=pW.o nq;generalize u.drewN nq=u1 at mA ⊢;have sO:=O mA;clear mA pW;have DP:=O (sO.o.keep mD.o id);rw[dN lf.o]at DP;obtain⟨a0,a1,a2,a3,a4,a5,a6,a7,a8,a9,jy,jz,a12,jw,jA,jb,jJ,jK,jL,jT,a20,a21⟩:=eo (sO.o.keep mD.o id) lf.o;rw[zE.o]at a1;have wN:=HW.o;rw[wN]at a0;clear wN;clear a1 a2 a3 a4 a5 a6 a7 a8 a9 jy jz a12 jw jA jb jJ jK jL jT a20 a21
 go_wp2_with (first|((with_reducible refine dt 29 ?_);refine aJ rfl 33 (.tmp 3) rfl w.heap.size rfl _ _ (0,0) _ DP.o underlying33 rfl af ?_)|fail)
 have sP:=sO.o;refine(HM.o _ sP).mono ?_;rintro e u5⟨rfl,hp⟩;unfold kq.val;have Kd:=sP.keep qt.o id;have oN:=O (nH (HH.o.dx sP) sr.o hp Kd dS ab);have HP:=O (show dy base w B pv (x.set i r.1) u5 from cH fR.o (cH sP (kh (HH.o.dx sP) sr.o hp)));clear hp Kd sP HM
 go_wp2_with (first|((with_reducible refine cU 46 ?_);refine aI rfl 46 (.tmp 4) (.tmp 30) rfl (w.heap.size+1) #[.int .i64 r.2.what,.string r.2.head,.int .i64 r.2.cert] rfl rfl _ bP oN.o (ba _ rfl) rfl bS ?_)|fail)
 refine aR (bj bB _ _ (w.heap.size+1) 46 #[.int .i64 r.2.what,.string r.2.head,.int .i64 r.2.cert] (0,0) _ rfl (aY _ (w.heap.size+1) _ _ _ _ oN.o) underlying46 rfl (ba _ rfl)) rfl ?_;unfold jM;rw[HR.o];exact⟨rfl,ew HP.o pS.o oH.o (bT _) oN.o dS ag _⟩
theorem Kr(base:Nat)(w:World)(B:Nat)(pv:Nat->dn)(x:ed)(o:jI)(hs:List gT)(h:di base w B pv x)(hf:gM w o hs)(hi:nk x)(a:World)(sL:kZ a)(qk:a.heap.size<=base)(sM:Fr aX a w)(hr:(o.dX hs).right=true)(hw:o.what=3) :
  aE 30 #[.pointer (some ⟨B,0,none⟩),.agg o.cells.toArray] w (jM base w B pv (nj x (o.dX hs))):=by
 have uo:B<w.heap.size:=h.lt;have oX:=h.low;obtain⟨ah,ch,gu⟩:=hf.h_;obtain⟨w2,eC⟩:∃w2,w2=(w.alloc (.cells o.cells.toArray 33)).alloc (.cells bP 46):=⟨_,rfl⟩;have dF:Fr aX w w2:=by rw[eC];exact((ae aX w).alloc _).alloc _
 have k1:w2.heap[w.heap.size]?=some (.cells o.cells.toArray 33 (0,0)):=by rw[eC];exact((ae aX _).alloc _).keep (aC _ _) id
 have k2:w2.heap[w.heap.size+1]?=some (.cells bP 46 (0,0)):=by
  have h:=aC (w.alloc (.cells o.cells.toArray 33)) (.cells bP 46);rw[bK]at h;rw[eC];exact h
 have sN:=O (kV o hs w2 (hf.dx dF));have HH:=O (h.dx dF);have HF:=O (hf.dx dF);have lf:=O gu;have HI:=O hi;have fR:=O dF;have mD:=O k1;have qt:=O k2;have pS:=O (show base<=w.heap.size from ab);have wJ:=O oX;have oH:=O uo;have Qi:=O sL;have Qh:=O (sM.trans dF);have Qp:=O qk;rw[eC]at k1;rw[dN gu]at eC sN k1 ⊢;unfold bP at eC k1;have ow:=O eC;have uW:=O k1;clear eC gu dF k1 k2 h hf hi sL qk sM
 obtain⟨i,uZ,zD⟩:∃i:Nat,o.aF.part=(i:Int)/\i<4:=by
  obtain⟨h0,h1⟩:=ja hr;have Ru:0<=o.aF.part:=h0;have PB:o.aF.part<4:=h1;exact⟨o.aF.part.toNat,ab,ab⟩
 have RM:(i:Int)<4:=ab;have rL:¬(i:Int)<0:=ab;have SM:¬(4:Int)<=(i:Int):=ab;have Pp:(0:Int)<=(i:Int):=ab;have sr:=O zD;have zE:=O uZ;obtain⟨r,Bl⟩:∃r,r=kT (x.part i) (o.dX hs):=⟨_,rfl⟩;have HR:=O (show nj x (o.dX hs)=(x.set i r.1,r.2)by rw[pT hr uZ (by show o.what≠10;omega),Bl,amT (show(o.dX hs).what=3 from hw)]);rw[hr]at sN
 have HM:=O (show∀U,Fr aX w2 U->aE 44 #[.pointer (some ⟨B,i*3,none⟩),.agg o.cells.toArray] U (eG base U B (iz pv x.now) (i*3) (pv i) r)from fun U hU=>by
  have h:=GQ base U B (i*3) (iz pv x.now) (pv i) (x.part i) o hs ((HH.o.dx hU).part i sr.o) ((HH.o.dx hU).partAt sr.o) wJ.o (HF.o.dx hU) (HI.o.ok.part i) (HI.o.path i);rw[<-Bl]at h;exact h)
 rw[dN lf.o]at HM;have HW:=O hw;clear hr hw Bl zD uZ;go_enter func30,ntmps30;go_wp2_with (first|((with_reducible refine dt 8 ?_);refine aJ rfl 33 (.tmp 3) rfl w.heap.size rfl _ _ (0,0) _ uW.o underlying33 rfl af ?_)|fail)
 rw[<-ow.o];refine sN.o.mono ?_;rintro e u⟨rfl,hu⟩;obtain⟨a0,a1,a2,a3,a4,a5,a6,a7,a8,a9,jy,jz,a12,jw,jA,jb,jJ,jK,jL,jT,a20,a21⟩:=eo (hu.keep mD.o id) lf.o;rw[zE.o]at a1;clear a0 a2 a3 a4 a5 a6 a7 a8 a9 jy jz a12 jw jA jb jJ jK jL jT a20 a21;have pW:=O (show∀n,Fr aX w2 (u.drewN n)from fun n=>dE n hu);clear hu uW;go_wp2_with fail
 go_quiet (fail);clear a1;have mA:=pW.o nq;generalize u.drewN nq=u1 at mA ⊢;have sO:=O mA;clear mA pW;have DP:=O (sO.o.keep mD.o id);rw[dN lf.o]at DP;obtain⟨a0,a1,a2,a3,a4,a5,a6,a7,a8,a9,jy,jz,a12,jw,jA,jb,jJ,jK,jL,jT,a20,a21⟩:=eo (sO.o.keep mD.o id) lf.o;rw[zE.o]at a1;have wN:=HW.o;rw[wN]at a0;clear wN;clear a1 a2 a3 a4 a5 a6 a7 a8 a9 jy jz a12 jw jA jb jJ jK jL jT a20 a21
 go_wp2_with (first|((with_reducible refine dt 34 ?_);refine aJ rfl 33 (.tmp 3) rfl w.heap.size rfl _ _ (0,0) _ DP.o underlying33 rfl af ?_)|fail)
 have sP:=sO.o;refine(HM.o _ sP).mono ?_;rintro e u5⟨rfl,hp⟩;unfold kq.val;have Kd:=sP.keep qt.o id;have oN:=O (nH (HH.o.dx sP) sr.o hp Kd dS ab);have HP:=O (show dy base w B pv (x.set i r.1) u5 from cH fR.o (cH sP (kh (HH.o.dx sP) sr.o hp)));clear hp Kd sP HM
 go_wp2_with (first|((with_reducible refine cU 46 ?_);refine aI rfl 46 (.tmp 4) (.tmp 35) rfl (w.heap.size+1) #[.int .i64 r.2.what,.string r.2.head,.int .i64 r.2.cert] rfl rfl _ bP oN.o (ba _ rfl) rfl bS ?_)|fail)
 refine aR (bj bB _ _ (w.heap.size+1) 46 #[.int .i64 r.2.what,.string r.2.head,.int .i64 r.2.cert] (0,0) _ rfl (aY _ (w.heap.size+1) _ _ _ _ oN.o) underlying46 rfl (ba _ rfl)) rfl ?_;unfold jM;rw[HR.o];exact⟨rfl,ew HP.o pS.o oH.o (bT _) oN.o dS ag _⟩
theorem UN(base:Nat)(w:World)(B:Nat)(pv:Nat->dn)(x:ed)(o:jI)(hs:List gT)(h:di base w B pv x)(hf:gM w o hs)(hi:nk x)(a:World)(sL:kZ a)(qk:a.heap.size<=base)(sM:Fr aX a w)(hr:(o.dX hs).right=true)(hw:o.what=4) :
  aE 30 #[.pointer (some ⟨B,0,none⟩),.agg o.cells.toArray] w (jM base w B pv (nj x (o.dX hs))):=by
 have uo:B<w.heap.size:=h.lt;have oX:=h.low;obtain⟨ah,ch,gu⟩:=hf.h_;obtain⟨w2,eC⟩:∃w2,w2=(w.alloc (.cells o.cells.toArray 33)).alloc (.cells bP 46):=⟨_,rfl⟩;have dF:Fr aX w w2:=by rw[eC];exact((ae aX w).alloc _).alloc _
 have k1:w2.heap[w.heap.size]?=some (.cells o.cells.toArray 33 (0,0)):=by rw[eC];exact((ae aX _).alloc _).keep (aC _ _) id
 have k2:w2.heap[w.heap.size+1]?=some (.cells bP 46 (0,0)):=by
  have h:=aC (w.alloc (.cells o.cells.toArray 33)) (.cells bP 46);rw[bK]at h;rw[eC];exact h
 have sN:=O (kV o hs w2 (hf.dx dF));have HH:=O (h.dx dF);have HF:=O (hf.dx dF);have lf:=O gu;have HI:=O hi;have fR:=O dF;have mD:=O k1;have qt:=O k2;have pS:=O (show base<=w.heap.size from ab);have wJ:=O oX;have oH:=O uo;have Qi:=O sL;have Qh:=O (sM.trans dF);have Qp:=O qk;rw[eC]at k1;rw[dN gu]at eC sN k1 ⊢;unfold bP at eC k1;have ow:=O eC;have uW:=O k1;clear eC gu dF k1 k2 h hf hi sL qk sM
 obtain⟨i,uZ,zD⟩:∃i:Nat,o.aF.part=(i:Int)/\i<4:=by
  obtain⟨h0,h1⟩:=ja hr;have Ru:0<=o.aF.part:=h0;have PB:o.aF.part<4:=h1;exact⟨o.aF.part.toNat,ab,ab⟩
 have RM:(i:Int)<4:=ab;have rL:¬(i:Int)<0:=ab;have SM:¬(4:Int)<=(i:Int):=ab;have Pp:(0:Int)<=(i:Int):=ab;have sr:=O zD;have zE:=O uZ;have Hp:=O (show nj x (o.dX hs)=(x,rep (if mh (x.part i).book (o.aF.dX hs) x.now then 5 else 4))by
  rw[pT hr uZ (by show o.what≠10;omega),amU (show(o.dX hs).what=4 from hw),ed.JO];rfl)
 rw[hr]at sN
 have wL:=O (show∀U,Fr aX w2 U->aE 45 #[.pointer (some ⟨(pv i).k,0,none⟩),.agg #[.int .i64 (i:Int),.bool o.aF.cG.aD,.string o.aF.cG.host,.int .i64 o.aF.cG.port,.bool o.aF.o.aD,.string o.aF.o.host,.int .i64 o.aF.o.port,.string o.aF.path,.string o.aF.query,.string o.aF.method,.slice ah hs.length ch,.bool o.aF.fq,.string o.aF.body],.int .i64 x.now] U fun e w'=>e=.returned (.bool (mh (x.part i).book (o.aF.dX hs) x.now))/\Fr aX U w' from fun U hU=>by
  have h:=Kj base U (pv i).k (pv i).kv (x.part i).book o.aF hs x.now ((HH.o.dx hU).part i sr.o).book (gA (HI.o.ok.part i).re.2.2.1 ag) (HF.o.dx hU).ef HF.o.aF;rw[zg lf.o,zE.o]at h;exact h)
 have HC:=O (show∀U,Fr aX w2 U->(U.cell? ⟨B,i*3+1,none⟩=some (.pointer (some ⟨(pv i).k,0,none⟩))/\U.cell? ⟨B,12,none⟩=some (.int .i64 x.now)/\U.cell? ⟨w.heap.size,1,none⟩=some (.int .i64 (i:Int))/\U.cell? ⟨w.heap.size,2,none⟩=some (.bool o.aF.cG.aD)/\U.cell? ⟨w.heap.size,3,none⟩=some (.string o.aF.cG.host)/\U.cell? ⟨w.heap.size,4,none⟩=some (.int .i64 o.aF.cG.port)/\U.cell? ⟨w.heap.size,5,none⟩=some (.bool o.aF.o.aD)/\U.cell? ⟨w.heap.size,6,none⟩=some (.string o.aF.o.host)/\U.cell? ⟨w.heap.size,7,none⟩=some (.int .i64 o.aF.o.port)/\U.cell? ⟨w.heap.size,8,none⟩=some (.string o.aF.path)/\U.cell? ⟨w.heap.size,9,none⟩=some (.string o.aF.query)/\U.cell? ⟨w.heap.size,10,none⟩=some (.string o.aF.method)/\U.cell? ⟨w.heap.size,11,none⟩=some (.slice ah hs.length ch)/\U.cell? ⟨w.heap.size,12,none⟩=some (.bool o.aF.fq)/\U.cell? ⟨w.heap.size,13,none⟩=some (.string o.aF.body))from fun U hU=>by
  have j1:=(HH.o.dx hU).partAt sr.o;have j2:=(HH.o.dx hU).eK;obtain⟨a0,a1,a2,a3,a4,a5,a6,a7,a8,a9,jy,jz,a12,jw,jA,jb,jJ,jK,jL,jT,a20,a21⟩:=eo (hU.keep mD.o id) lf.o;rw[zE.o]at a1;exact⟨j1.gU,by simp only[World.cell?,j2];rfl,a1,a2,a3,a4,a5,a6,a7,a8,a9,jy,jz,a12,jw⟩)
 have HW:=O hw;clear hr hw zD uZ;go_enter func30,ntmps30;go_wp2_with (first|((with_reducible refine dt 8 ?_);refine aJ rfl 33 (.tmp 3) rfl w.heap.size rfl _ _ (0,0) _ uW.o underlying33 rfl af ?_)|fail)
 rw[<-ow.o];refine sN.o.mono ?_;rintro e u⟨rfl,hu⟩;obtain⟨a0,a1,a2,a3,a4,a5,a6,a7,a8,a9,jy,jz,a12,jw,jA,jb,jJ,jK,jL,jT,a20,a21⟩:=eo (hu.keep mD.o id) lf.o;rw[zE.o]at a1;clear a0 a2 a3 a4 a5 a6 a7 a8 a9 jy jz a12 jw jA jb jJ jK jL jT a20 a21;have pW:=O (show∀n,Fr aX w2 (u.drewN n)from fun n=>dE n hu);clear hu uW;go_wp2_with fail
 go_quiet (fail);clear a1;have mA:=pW.o nq;generalize u.drewN nq=u1 at mA ⊢;have sO:=O mA;clear mA pW;have DP:=O (sO.o.keep mD.o id);rw[dN lf.o]at DP;obtain⟨a0,a1,a2,a3,a4,a5,a6,a7,a8,a9,jy,jz,a12,jw,jA,jb,jJ,jK,jL,jT,a20,a21⟩:=eo (sO.o.keep mD.o id) lf.o;rw[zE.o]at a1;have wN:=HW.o;rw[wN]at a0;clear wN;clear a1 a2 a3 a4 a5 a6 a7 a8 a9 jy jz a12 jw jA jb jJ jK jL jT a20 a21
 cases hb:mh (x.part i).book (o.aF.dX hs) x.now
 ·skip
  have HR:=O (Hp.o.trans (by rw[hb];rfl:_=(x,rep 4)));rw[hb]at wL;clear hb Hp;go_wp2_with fail
  go_region_held3 (fun U=>Fr aX w2 U/\U.cell? ⟨B,i*3+1,none⟩=some (.pointer (some ⟨(pv i).k,0,none⟩))/\U.cell? ⟨B,12,none⟩=some (.int .i64 x.now)/\U.cell? ⟨w.heap.size,1,none⟩=some (.int .i64 (i:Int))/\U.cell? ⟨w.heap.size,2,none⟩=some (.bool o.aF.cG.aD)/\U.cell? ⟨w.heap.size,3,none⟩=some (.string o.aF.cG.host)/\U.cell? ⟨w.heap.size,4,none⟩=some (.int .i64 o.aF.cG.port)/\U.cell? ⟨w.heap.size,5,none⟩=some (.bool o.aF.o.aD)/\U.cell? ⟨w.heap.size,6,none⟩=some (.string o.aF.o.host)/\U.cell? ⟨w.heap.size,7,none⟩=some (.int .i64 o.aF.o.port)/\U.cell? ⟨w.heap.size,8,none⟩=some (.string o.aF.path)/\U.cell? ⟨w.heap.size,9,none⟩=some (.string o.aF.query)/\U.cell? ⟨w.heap.size,10,none⟩=some (.string o.aF.method)/\U.cell? ⟨w.heap.size,11,none⟩=some (.slice ah hs.length ch)/\U.cell? ⟨w.heap.size,12,none⟩=some (.bool o.aF.fq)/\U.cell? ⟨w.heap.size,13,none⟩=some (.string o.aF.body)) ((refine(fun hU=>⟨hU,HC.o _ hU⟩) ?_;first|exact aA sO.o|assumption))
   ((first
    |(go_at_call 45;refine(wL.o _ (aA sO.o)).mono ?_;rintro e u5 ⟨rfl,lB⟩;have tG:Fr aX w2 u5:=(aA sO.o).trans lB)))
  have HP:=O (show dy base w B pv x u5 from cH fR.o (fx HH.o tG));have oN:=O (tG.keep qt.o id);clear lB tG HC wL;go_wp2_with (first|((with_reducible refine cU 46 ?_);refine aI rfl 46 (.tmp 4) (.tmp 50) rfl (w.heap.size+1) #[.int .i64 4,.string ⟨#[]⟩,.int .i64 0] rfl rfl _ bP oN.o (ba _ rfl) rfl bS ?_)|fail)
  refine aR (bj bB _ _ (w.heap.size+1) 46 #[.int .i64 4,.string ⟨#[]⟩,.int .i64 0] (0,0) _ rfl (aY _ (w.heap.size+1) _ _ _ _ oN.o) underlying46 rfl (ba _ rfl)) rfl ?_;unfold jM;rw[HR.o];exact⟨rfl,ew HP.o pS.o oH.o (bT _) oN.o dS ag _⟩
 ·skip
  have HR:=O (Hp.o.trans (by rw[hb];rfl:_=(x,rep 5)));rw[hb]at wL;clear hb Hp;go_wp2_with fail
  go_region_held3 (fun U=>Fr aX w2 U/\U.cell? ⟨B,i*3+1,none⟩=some (.pointer (some ⟨(pv i).k,0,none⟩))/\U.cell? ⟨B,12,none⟩=some (.int .i64 x.now)/\U.cell? ⟨w.heap.size,1,none⟩=some (.int .i64 (i:Int))/\U.cell? ⟨w.heap.size,2,none⟩=some (.bool o.aF.cG.aD)/\U.cell? ⟨w.heap.size,3,none⟩=some (.string o.aF.cG.host)/\U.cell? ⟨w.heap.size,4,none⟩=some (.int .i64 o.aF.cG.port)/\U.cell? ⟨w.heap.size,5,none⟩=some (.bool o.aF.o.aD)/\U.cell? ⟨w.heap.size,6,none⟩=some (.string o.aF.o.host)/\U.cell? ⟨w.heap.size,7,none⟩=some (.int .i64 o.aF.o.port)/\U.cell? ⟨w.heap.size,8,none⟩=some (.string o.aF.path)/\U.cell? ⟨w.heap.size,9,none⟩=some (.string o.aF.query)/\U.cell? ⟨w.heap.size,10,none⟩=some (.string o.aF.method)/\U.cell? ⟨w.heap.size,11,none⟩=some (.slice ah hs.length ch)/\U.cell? ⟨w.heap.size,12,none⟩=some (.bool o.aF.fq)/\U.cell? ⟨w.heap.size,13,none⟩=some (.string o.aF.body)) ((refine(fun hU=>⟨hU,HC.o _ hU⟩) ?_;first|exact aA sO.o|assumption))
   ((first
    |(go_at_call 45;refine(wL.o _ (aA sO.o)).mono ?_;rintro e u5 ⟨rfl,lB⟩;have tG:Fr aX w2 u5:=(aA sO.o).trans lB)))
  have HP:=O (show dy base w B pv x u5 from cH fR.o (fx HH.o tG));have oN:=O (tG.keep qt.o id);clear lB tG HC wL;go_wp2_with (first|((with_reducible refine cU 46 ?_);refine aI rfl 46 (.tmp 4) (.tmp 49) rfl (w.heap.size+1) #[.int .i64 5,.string ⟨#[]⟩,.int .i64 0] rfl rfl _ bP oN.o (ba _ rfl) rfl bS ?_)|fail)
  refine aR (bj bB _ _ (w.heap.size+1) 46 #[.int .i64 5,.string ⟨#[]⟩,.int .i64 0] (0,0) _ rfl (aY _ (w.heap.size+1) _ _ _ _ oN.o) underlying46 rfl (ba _ rfl)) rfl ?_;unfold jM;rw[HR.o];exact⟨rfl,ew HP.o pS.o oH.o (bT _) oN.o dS ag _⟩
theorem Qy{t:TypeId}(h:w.heap[b]?=some (.cells cs.toArray t (0,0))):w.rangeAt b 0 cs:=fun j v hv=>by
 simp only[World.cell?,h];simpa using hv
theorem MT(base:Nat)(w:World)(B:Nat)(pv:Nat->dn)(x:ed)(o:jI)(hs:List gT)(h:di base w B pv x)(hf:gM w o hs)(hi:nk x)(a:World)(sL:kZ a)(qk:a.heap.size<=base)(sM:Fr aX a w)(hr:(o.dX hs).right=true)(hw:o.what=5) :
  aE 30 #[.pointer (some ⟨B,0,none⟩),.agg o.cells.toArray] w (jM base w B pv (nj x (o.dX hs))):=by
 have uo:B<w.heap.size:=h.lt;have oX:=h.low;obtain⟨ah,ch,gu⟩:=hf.h_;obtain⟨w2,eC⟩:∃w2,w2=(w.alloc (.cells o.cells.toArray 33)).alloc (.cells bP 46):=⟨_,rfl⟩;have dF:Fr aX w w2:=by rw[eC];exact((ae aX w).alloc _).alloc _
 have k1:w2.heap[w.heap.size]?=some (.cells o.cells.toArray 33 (0,0)):=by rw[eC];exact((ae aX _).alloc _).keep (aC _ _) id
 have k2:w2.heap[w.heap.size+1]?=some (.cells bP 46 (0,0)):=by
  have h:=aC (w.alloc (.cells o.cells.toArray 33)) (.cells bP 46);rw[bK]at h;rw[eC];exact h
 have sN:=O (kV o hs w2 (hf.dx dF));have HH:=O (h.dx dF);have HF:=O (hf.dx dF);have lf:=O gu;have HI:=O hi;have fR:=O dF;have mD:=O k1;have qt:=O k2;have pS:=O (show base<=w.heap.size from ab);have wJ:=O oX;have oH:=O uo;have Qi:=O sL;have Qh:=O (sM.trans dF);have Qp:=O qk;rw[eC]at k1;rw[dN gu]at eC sN k1 ⊢;unfold bP at eC k1;have ow:=O eC;have uW:=O k1;clear eC gu dF k1 k2 h hf hi sL qk sM
 obtain⟨i,uZ,zD⟩:∃i:Nat,o.aF.part=(i:Int)/\i<4:=by
  obtain⟨h0,h1⟩:=ja hr;have Ru:0<=o.aF.part:=h0;have PB:o.aF.part<4:=h1;exact⟨o.aF.part.toNat,ab,ab⟩
 have RM:(i:Int)<4:=ab;have rL:¬(i:Int)<0:=ab;have SM:¬(4:Int)<=(i:Int):=ab;have Pp:(0:Int)<=(i:Int):=ab;have sr:=O zD;have zE:=O uZ;obtain⟨r,Bl⟩:∃r,r=kU (x.part i) x.now (o.dX hs):=⟨_,rfl⟩;have HR:=O (show nj x (o.dX hs)=(x.set i r.1,r.2)by rw[pT hr uZ (by show o.what≠10;omega),Bl,amV (show(o.dX hs).what=5 from hw)]);rw[hr]at sN
 have HM:=O (show∀U,Fr aX w2 U->aE 46 #[.pointer (some ⟨B,i*3,none⟩),.agg o.cells.toArray,.int .i64 x.now] U (eG base U B (iz pv x.now) (i*3) (pv i) r)from fun U hU=>by
  have h:=Kk base U B (i*3) (iz pv x.now) (pv i) (x.part i) o hs x.now ((HH.o.dx hU).part i sr.o) ((HH.o.dx hU).partAt sr.o) wJ.o (HF.o.dx hU) (HI.o.ok.part i) (Qi.o.pw.fr (Qh.o.trans hU)) HI.o.ok.now.1 HI.o.ok.now.2;rw[<-Bl]at h;exact h)
 rw[dN lf.o]at HM
 have HC:=O (show∀U,Fr aX w2 U->(U.heap[w.heap.size]?=some (.cells #[.int .i64 o.what,.int .i64 o.aF.part,.bool o.aF.cG.aD,.string o.aF.cG.host,.int .i64 o.aF.cG.port,.bool o.aF.o.aD,.string o.aF.o.host,.int .i64 o.aF.o.port,.string o.aF.path,.string o.aF.query,.string o.aF.method,.slice ah hs.length ch,.bool o.aF.fq,.string o.aF.body,.bool o.proxy,.string o.text,.string o.user,.string o.pass,.string o.bz,.int .i64 o.cert,.bool o.all,.int .i64 o.n] 33 (0,0))/\U.cell? ⟨B,12,none⟩=some (.int .i64 x.now))from fun U hU=>by
  have j2:=(HH.o.dx hU).eK;exact⟨by rw[<-dN lf.o];exact hU.keep mD.o id,by simp only[World.cell?,j2];rfl⟩)
 have HW:=O hw;clear hr hw Bl zD uZ;go_enter func30,ntmps30;go_wp2_with (first|((with_reducible refine dt 8 ?_);refine aJ rfl 33 (.tmp 3) rfl w.heap.size rfl _ _ (0,0) _ uW.o underlying33 rfl af ?_)|fail)
 rw[<-ow.o];refine sN.o.mono ?_;rintro e u⟨rfl,hu⟩;obtain⟨a0,a1,a2,a3,a4,a5,a6,a7,a8,a9,jy,jz,a12,jw,jA,jb,jJ,jK,jL,jT,a20,a21⟩:=eo (hu.keep mD.o id) lf.o;rw[zE.o]at a1;clear a0 a2 a3 a4 a5 a6 a7 a8 a9 jy jz a12 jw jA jb jJ jK jL jT a20 a21;have pW:=O (show∀n,Fr aX w2 (u.drewN n)from fun n=>dE n hu);clear hu uW;go_wp2_with fail
 go_quiet (fail);clear a1;have mA:=pW.o nq;generalize u.drewN nq=u1 at mA ⊢;have sO:=O mA;clear mA pW;have DP:=O (sO.o.keep mD.o id);rw[dN lf.o]at DP;obtain⟨a0,a1,a2,a3,a4,a5,a6,a7,a8,a9,jy,jz,a12,jw,jA,jb,jJ,jK,jL,jT,a20,a21⟩:=eo (sO.o.keep mD.o id) lf.o;rw[zE.o]at a1;have wN:=HW.o;rw[wN]at a0;clear wN;clear a1 a2 a3 a4 a5 a6 a7 a8 a9 jy jz a12 jw jA jb jJ jK jL jT a20 a21;go_wp2_with fail
 refine wp_region_held_drew (S:=(fun U=>U.heap[w.heap.size]?=some (.cells #[.int .i64 o.what,.int .i64 o.aF.part,.bool o.aF.cG.aD,.string o.aF.cG.host,.int .i64 o.aF.cG.port,.bool o.aF.o.aD,.string o.aF.o.host,.int .i64 o.aF.o.port,.string o.aF.path,.string o.aF.query,.string o.aF.method,.slice ah hs.length ch,.bool o.aF.fq,.string o.aF.body,.bool o.proxy,.string o.text,.string o.user,.string o.pass,.string o.bz,.int .i64 o.cert,.bool o.all,.int .i64 o.n] 33 (0,0))/\U.cell? ⟨B,12,none⟩=some (.int .i64 x.now))) af (HC.o _ (aA sO.o)) ?_
 intro xg;refine aP 0 53 rfl ?_
 refine sR 1 54 rfl (fB bB 33 (.tmp 3) rfl w.heap.size 0 rfl [.int .i64 o.what,.int .i64 o.aF.part,.bool o.aF.cG.aD,.string o.aF.cG.host,.int .i64 o.aF.cG.port,.bool o.aF.o.aD,.string o.aF.o.host,.int .i64 o.aF.o.port,.string o.aF.path,.string o.aF.query,.string o.aF.method,.slice ah hs.length ch,.bool o.aF.fq,.string o.aF.body,.bool o.proxy,.string o.text,.string o.user,.string o.pass,.string o.bz,.int .i64 o.cert,.bool o.all,.int .i64 o.n] _ (fun U hU=>Qy hU.1) underlying33 rfl af) ?_
 try simp only[Act.put,sA,sB,sC]
 refine aP 2 55 rfl ?_;refine aP 3 56 rfl ?_;refine aP 4 57 rfl ?_;refine aP 5 58 rfl ?_;refine eE 6 rfl fun K hK=>?_;go_simp;have sP:=aA sO.o;refine(HM.o _ sP).mono ?_;rintro e u5⟨rfl,hp⟩;unfold kq.val;have Kd:=sP.keep qt.o id;have oN:=O (nH (HH.o.dx sP) sr.o hp Kd dS ab);have hko:=nH (HH.o.dx sP) sr.o hp (HC.o _ sP).1 kX ab
 have HP:=O (show dy base w B pv (x.set i r.1) u5 from cH fR.o (cH sP (kh (HH.o.dx sP) sr.o hp)));have Yt:u5.cell? ⟨B,12,none⟩=some (.int .i64 x.now):=by
  obtain⟨v',_,_,_,h4⟩:=hp;rw[xT pv x.now sr.o]at h4;simp only[World.cell?,h4];rfl
 have HS5:=O (And.intro hko Yt);have HB5:=O (show B<u5.heap.size by obtain⟨v',_,_,_,h4⟩:=hp;exact bg h4);clear hp Kd sP HM hko Yt;refine hK.out _ _ HS5.o ?_;intro wM;clear hK xg K
 try simp only[Act.put,sA,sB,sC]
 refine eE 7 rfl fun K hK=>?_;refine gP rfl 46 (.tmp 4) (.tmp 59) rfl (w.heap.size+1) #[.int .i64 r.2.what,.string r.2.head,.int .i64 r.2.cert] rfl rfl 46 bP oN.o (ba _ rfl) rfl bS ?_;have cR:=(ae (one (w.heap.size+1)) u5).setRow (fun _=>rfl) #[.int .i64 r.2.what,.string r.2.head,.int .i64 r.2.cert]
 refine hK.out _ _ ⟨cR.keep HS5.o.1 (fun e=>by have e':w.heap.size=w.heap.size+1:=e;omega),(cR.cell (p:=⟨B,12,none⟩) HB5.o (fun e=>by have e':B=w.heap.size+1:=e;have:=oH.o;omega)).trans HS5.o.2⟩ ?_;intro yb;clear hK wM K yb cR
 try simp only[Act.put,sA,sB,sC]
 refine wpAnyH_done af ?_ _;go_wp2_with fail
 refine aR (bj bB _ _ (w.heap.size+1) 46 #[.int .i64 r.2.what,.string r.2.head,.int .i64 r.2.cert] (0,0) _ rfl (aY _ (w.heap.size+1) _ _ _ _ oN.o) underlying46 rfl (ba _ rfl)) rfl ?_;unfold jM;rw[HR.o];exact⟨rfl,ew HP.o pS.o oH.o (bT _) oN.o dS ag _⟩
def ahY(w:World)(l:List (gz×Int))(o:gz)(i:Value)(wr:World):Prop :=
 ∃k:Nat,k<=l.length/\i=.int .i64 k/\(l.take k).find? (fun c=>c.1.kM o)=none/\Fr aX w wr
theorem Qz{o:gz}{c:gz×Int}(h:l[k]?=some c)(hn:(l.take k).find? (fun c=>c.1.kM o)=none)(hc:c.1.kM o=false):(l.take (k+1)).find? (fun c=>c.1.kM o)=none:=by
 rw[dU h,List.find?_append,hn];simp[hc]
theorem UP{o:gz}{c:gz×Int}(h:l[k]?=some c)(hn:(l.take k).find? (fun c=>c.1.kM o)=none)(hc:c.1.kM o=true):l.find? (fun c=>c.1.kM o)=some c:=by
 have e:l=l.take (k+1)++l.drop (k+1):=(fH _ _).symm;rw[e,dU h,List.find?_append,List.find?_append,hn];simp[hc]
theorem YD(base:Nat)(w:World)(B:Nat)(pv:Nat->dn)(x:ed)(o:jI)(hs:List gT)(h:di base w B pv x)(hf:gM w o hs)(hi:nk x)(a:World)(sL:kZ a)(qk:a.heap.size<=base)(sM:Fr aX a w)(hr:(o.dX hs).right=true)(hw:o.what=6) :
  aE 30 #[.pointer (some ⟨B,0,none⟩),.agg o.cells.toArray] w (jM base w B pv (nj x (o.dX hs))):=by
 have uo:B<w.heap.size:=h.lt;have oX:=h.low;obtain⟨ah,ch,gu⟩:=hf.h_;obtain⟨w2,eC⟩:∃w2,w2=(w.alloc (.cells o.cells.toArray 33)).alloc (.cells bP 46):=⟨_,rfl⟩;have dF:Fr aX w w2:=by rw[eC];exact((ae aX w).alloc _).alloc _
 have k1:w2.heap[w.heap.size]?=some (.cells o.cells.toArray 33 (0,0)):=by rw[eC];exact((ae aX _).alloc _).keep (aC _ _) id
 have k2:w2.heap[w.heap.size+1]?=some (.cells bP 46 (0,0)):=by
  have h:=aC (w.alloc (.cells o.cells.toArray 33)) (.cells bP 46);rw[bK]at h;rw[eC];exact h
 have sN:=O (kV o hs w2 (hf.dx dF));have HH:=O (h.dx dF);have HF:=O (hf.dx dF);have lf:=O gu;have HI:=O hi;have fR:=O dF;have mD:=O k1;have qt:=O k2;have pS:=O (show base<=w.heap.size from ab);have wJ:=O oX;have oH:=O uo;have Qi:=O sL;have Qh:=O (sM.trans dF);have Qp:=O qk;rw[eC]at k1;rw[dN gu]at eC sN k1 ⊢;unfold bP at eC k1;have ow:=O eC;have uW:=O k1;clear eC gu dF k1 k2 h hf hi sL qk sM
 obtain⟨i,uZ,zD⟩:∃i:Nat,o.aF.part=(i:Int)/\i<4:=by
  obtain⟨h0,h1⟩:=ja hr;have Ru:0<=o.aF.part:=h0;have PB:o.aF.part<4:=h1;exact⟨o.aF.part.toNat,ab,ab⟩
 have RM:(i:Int)<4:=ab;have rL:¬(i:Int)<0:=ab;have SM:¬(4:Int)<=(i:Int):=ab;have Pp:(0:Int)<=(i:Int):=ab;have sr:=O zD;have zE:=O uZ;have HR:=O (show nj x (o.dX hs)=(x,Oa (x.part i) (o.dX hs))by
  rw[pT hr uZ (by show o.what≠10;omega),amW (show(o.dX hs).what=6 from hw),ed.JO])
 rw[hr]at sN;obtain⟨l,hl⟩:∃l,l=(x.part i).eJ:=⟨_,rfl⟩;obtain⟨cv,hcv⟩:∃cv,cv=(pv i).cv:=⟨_,rfl⟩;have lU:ez 4 w2 cv (l.map lS):=by rw[hl,hcv];exact(HH.o.part i sr.o).eJ.at
 have hl8:l.length<=1000000:=by rw[hl];exact aH (HI.o.ok.part i).re.2.2.2 ag
 obtain⟨av,cc,gi⟩:=lU.form;rw[aj]at gi;subst gi;have anw:=O lU;have hpk:Oa (x.part i) (o.dX hs)=match l.find? (fun c=>c.1.kM o.aF.o)with|some c=>⟨1,.empty,c.2⟩|none=>rep 3:=by rw[hl];rfl
 rw[hpk]at HR;have wL:=O hcv;have HW:=O hw;clear hr hw zD uZ hl hpk lU hcv;go_enter func30,ntmps30;go_wp2_with (first|((with_reducible refine dt 8 ?_);refine aJ rfl 33 (.tmp 3) rfl w.heap.size rfl _ _ (0,0) _ uW.o underlying33 rfl af ?_)|fail)
 rw[<-ow.o];refine sN.o.mono ?_;rintro e u⟨rfl,hu⟩;obtain⟨a0,a1,a2,a3,a4,a5,a6,a7,a8,a9,jy,jz,a12,jw,jA,jb,jJ,jK,jL,jT,a20,a21⟩:=eo (hu.keep mD.o id) lf.o;rw[zE.o]at a1;clear a0 a2 a3 a4 a5 a6 a7 a8 a9 jy jz a12 jw jA jb jJ jK jL jT a20 a21;have pW:=O (show∀n,Fr aX w2 (u.drewN n)from fun n=>dE n hu);clear hu uW;go_wp2_with fail
 go_quiet (fail);clear a1;have mA:=pW.o nq;generalize u.drewN nq=u1 at mA ⊢;have sO:=O mA;clear mA pW;have DP:=O (sO.o.keep mD.o id);rw[dN lf.o]at DP;obtain⟨a0,a1,a2,a3,a4,a5,a6,a7,a8,a9,jy,jz,a12,jw,jA,jb,jJ,jK,jL,jT,a20,a21⟩:=eo (sO.o.keep mD.o id) lf.o;rw[zE.o]at a1;have wN:=HW.o;rw[wN]at a0;clear wN;clear a1 a2 a3 a4 a8 a9 jy jz a12 jw jA jb jJ jK jL jT a20 a21
 have HP1:=O (show u1.cell? ⟨B,i*3+2,none⟩=some (.slice av l.length cc)from by rw[wL.o];exact((HH.o.dx sO.o).partAt sr.o).lQ);have p1:=HP1.o;go_wp2_with fail
 go_loopw[67] (ahY u1 l o.aF.o) (fun i _=>l.length-(intOf i).toNat)
 case atStart=>exact⟨0,aW _,rfl,rfl,ae _ _⟩
 case round =>
  obtain⟨k,hk,rfl,hn,cR⟩:=hrel;have HN:=O hn;have ue:=O (sO.o.trans cR);have T4:=O cR;clear hn;by_cases fE:k<l.length
  ·have qm:(k:Int)<(l.length:Int):=ab;rcases(anw.o.i_ ue.o).2 with ⟨_,_,_,e,_⟩|⟨bk,of,c,hf,h1,h2,h3,h4⟩
   ·have Ri:=ar List.length e;rw[aj,List.length_nil]at Ri;omega
   ·rw[aj]at hf;cases hf;rw[aj]at h1;unfold maxLen at h2;obtain⟨q,dT⟩:∃q,l[k]?=some q:=⟨_,List.getElem?_eq_getElem fE⟩;have hcell:=h4 k (lS q) (by rw[List.getElem?_map,dT];rfl);have Ut:=O dT;have lI:(lS q).length=4:=rfl;have heq:=j8 q.1 o.aF.o;obtain⟨a0,a1,a2,a3,a4,a5,a6,a7,a8,a9,jy,jz,a12,jw,jA,jb,jJ,jK,jL,jT,a20,a21⟩:=eo (ue.o.keep mD.o id) lf.o
    have HB8:=O (aC wr (.cells #[.bool q.1.aD,.string q.1.host,.int .i64 q.1.port,.int .i64 q.2] 105));have ix:Fr aX wr (wr.alloc (.cells #[.bool q.1.aD,.string q.1.host,.int .i64 q.1.port,.int .i64 q.2] 105)):=(ae aX wr).alloc _;have g5:=(ix.keep (ue.o.keep mD.o id) id);obtain⟨b0,b1,b2,b3,b4,b5,b6,b7,b8,b9,XY,XZ,X0,b13,b14,b15,b16,b17,b18,b19,b20,b21⟩:=eo g5 lf.o;have si:=O (ue.o.trans ix)
    have lV:=O (T4.o.trans ix);have oN:=O (si.o.keep qt.o id);clear h4 dT ix g5 a0 a1 a2 a3 a4 a5 a6 a7 a8 a9 jy jz a12 jw jA jb jJ jK jL jT a20 a21 b0 b1 b2 b3 b4 b8 b9 XY XZ X0 b13 b14 b15 b16 b17 b18 b19 b20 b21 cR;unfold lS at hcell lI;cases hq:q.1.kM o.aF.o
    ·have SK:=O (Qz Ut.o HN.o hq);rw[hq]at heq;clear hq;go_wp2_with (first|((with_reducible refine dt 70 ?_);refine bu rfl 105 (.tmp 69) rfl bk (of+k*4) rfl _ _ hcell underlying105 rfl af ?_)|fail)
     go_roundw
     case rel=>exact⟨k+1,ab,bh,SK.o,lV.o⟩
     case measure=>simp[intOf];omega
    ·have Dt:=O (UP Ut.o HN.o hq);rw[Dt.o]at HR;rw[hq]at heq;have HP:=O (show dy base w B pv x _ from cH fR.o (fx HH.o si.o));clear hq
     go_wp2_with (first|((with_reducible refine dt 70 ?_);refine bu rfl 105 (.tmp 69) rfl bk (of+k*4) rfl _ _ hcell underlying105 rfl af ?_)|((with_reducible refine cU 46 ?_);refine aI rfl 46 (.tmp 4) (.tmp 80) rfl (w.heap.size+1) #[.int .i64 1,.string ⟨#[]⟩,.int .i64 q.2] rfl rfl _ bP oN.o (ba _ rfl) rfl bS ?_)|fail)
     refine aR (bj bB _ _ (w.heap.size+1) 46 #[.int .i64 1,.string ⟨#[]⟩,.int .i64 q.2] (0,0) _ rfl (aY _ (w.heap.size+1) _ _ _ _ oN.o) underlying46 rfl (ba _ rfl)) rfl ?_;unfold jM;rw[HR.o];exact⟨rfl,ew HP.o pS.o oH.o (bT _) oN.o dS ag _⟩
  ·have hke:k=l.length:=ab;subst hke;have HHN:=O (show l.find? (fun c=>c.1.kM o.aF.o)=none by have h:=HN.o;rw[List.take_length]at h;exact h);rw[HHN.o]at HR;have HP:=O (show dy base w B pv x wr from cH fR.o (fx HH.o ue.o));have oN:=O (ue.o.keep qt.o id);clear cR
   go_wp2_with (first|((with_reducible refine cU 46 ?_);refine aI rfl 46 (.tmp 4) (.tmp 82) rfl (w.heap.size+1) #[.int .i64 3,.string ⟨#[]⟩,.int .i64 0] rfl rfl _ bP oN.o (ba _ rfl) rfl bS ?_)|fail)
   refine aR (bj bB _ _ (w.heap.size+1) 46 #[.int .i64 3,.string ⟨#[]⟩,.int .i64 0] (0,0) _ rfl (aY _ (w.heap.size+1) _ _ _ _ oN.o) underlying46 rfl (ba _ rfl)) rfl ?_;unfold jM;rw[HR.o];exact⟨rfl,ew HP.o pS.o oH.o (bT _) oN.o dS ag _⟩
