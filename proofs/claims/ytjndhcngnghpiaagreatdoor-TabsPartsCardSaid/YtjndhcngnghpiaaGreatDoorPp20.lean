/- Lemmas for the law's walk. -/
import Derived.Test.YtjndhcngnghpiaaGreatDoorPp19
import Derived.Great.Walk
set_option maxRecDepth 100000
set_option maxHeartbeats 16000000
set_option linter.unusedSimpArgs false
namespace Go.Proofs.YtjndhcngnghpiaaGreatDoor
open Go.Proofs.Tryz
open Go.RowKit
variable {n T B i base bs R:Nat} {W V a:World} {va sv:Value} {l:List Int} {f:Nat->Nat->Int} {o:jx} {t':iI} {e:Ending} {k:Int} {p q q' r:a_} {g:Nat->ql} {sb:Nat->Nat}
theorem wpList_buildTo{P:Program}{ops:Array Oper}{rest:List Oper}{o:Oper}{a:Act}{w:World}{Q:Exit->Act->World->Prop}(hg:o.guard=none)(t:TypeId)(parts:Array (Nat×Operand))(ho:o.op=.build t parts)(dst:Option Tmp)(M7:o.dst=dst)
  (vs:List (Nat×Value))(he:(parts.map fun(i,x)=>(i,a.eval x)).toList=vs)(cells:bW)(hf:P.built t vs=some cells)
  (h:wpList P ops Q rest (a.put dst (.agg cells)) w):wpList P ops Q (o :: rest) a w:=by
 subst M7;refine wpList_build hg t parts ho (by rw[he,hf];rfl) ?_;rw[he,hf];exact h
theorem wpList_boxTo{P:Program}{ops:Array Oper}{rest:List Oper}{o:Oper}{a:Act}{w:World}{Q:Exit->Act->World->Prop}(hg:o.guard=none)(t:TypeId)(x:Operand)(ho:o.op=.box t x)(dst:Option Tmp)(M7:o.dst=dst)
  (cells:bW)(hx:a.eval x=.agg cells)
  (h:wpList P ops Q rest (a.put dst (.pointer (some ⟨w.heap.size,0,none⟩))) (w.alloc (.cells cells t))):wpList P ops Q (o :: rest) a w:=by
 refine Great.wpList_runTo hg dst M7 (.pointer (some ⟨w.heap.size,0,none⟩)) _ ?_ h;unfold execOp;simp[ho,Instr.box,newVar,newRow,hx,Value.cells,Result.andThen]
theorem uI{P:Program}{ops:Array Oper}{rest:List Oper}{o:Oper}{a:Act}{w:World}{Q:Exit->Act->World->Prop}(hg:o.guard=none)(t:TypeId)(ho:o.op=.alloc t)(dst:Option Tmp)(M7:o.dst=dst)
  (cells:bW)(hi:(P.info? t).map (·.zero)=some (some (.agg cells)))(N:Nat)(hN:w.heap.size=N)
  (h:wpList P ops Q rest (a.put dst (.pointer (some ⟨N,0,none⟩))) (w.alloc (.cells cells t))):wpList P ops Q (o :: rest) a w:=by
 subst hN;refine Great.wpList_runTo hg dst M7 (.pointer (some ⟨w.heap.size,0,none⟩)) _ ?_ h;cases U1:P.info? t with
 |none=>simp[U1]at hi
 |some ie =>
  simp only[U1,Option.map_some,dW]at hi;unfold execOp;simp[ho,Instr.alloc,zeroValue,typeInfo,U1,hi,newVar,newRow,Value.cells,Sem.run_bind,Result.andThen]
def zu(p:Value)(f:Nat->Nat->Int):a_:=p :: (kJ f++((List.replicate 6 (mU ib zeroV)).flatten++[.int .i64 0,.slice none 0 0]))
theorem U_(B:Nat):prog.built 78 [(0,.pointer (some ⟨B,0,none⟩))]=some (zu (.pointer (some ⟨B,0,none⟩)) (fun _ _=>0)).toArray:=af
theorem YU(p:Value)(f:Nat->Nat->Int)(hn:n<6):zu p f=(zu p f).take (17+n*45)++(mU ib zeroV++(zu p f).drop (17+n*45+45)):=by
 rcases(show n=0\/n=1\/n=2\/n=3\/n=4\/n=5 from ab)with rfl|rfl|rfl|rfl|rfl|rfl<;>rfl
section
variable {xw : Option (Nat × ed)} {a U U' : World} {T : Nat} {t : iI}
theorem Va{pv:Nat->dn}(hf:Fr aX a W)(hT:a.heap.size<=T)(hb:W.heap[T]?=some (.cells (zu (.pointer (some ⟨B,0,none⟩)) (fun _ _=>0)).toArray 78 (0,0)))(hw:di a.heap.size W B pv Gw):dz none a W T uG:=by
 have hr:=zm hb;refine⟨⟨B,fun _=>zeroV,.slice none 0 0,fun _=>0,⟨⟨_,hb,rfl⟩,hr 0 _ rfl,?_,fun n hn=>?_,hr 287 _ rfl,hr 288 _ rfl⟩,⟨fun _=>pv,?_,?_⟩,⟨[],rfl,dp _ _ _ _,fun _ h=>(by cases h)⟩,fun n hn=>⟨fun h=>absurd rfl h,fun h=>by rcases h with h|h<;>cases h⟩⟩,hT,hf⟩
 ·exact nU (p:=[_]) (q:=kJ (fun _ _=>0)) hr
 ·rw[YU _ _ hn]at hr;have:=nU hr
  rwa [show 0+((zu (.pointer (some ⟨B,0,none⟩)) (fun _ _=>0)).take (17+n*45)).length=17+n*45 by
   rw[aQ,show(zu (.pointer (some ⟨B,0,none⟩)) (fun _ _=>0)).length=289 from rfl];omega]at this
 ·intro i C x hi;unfold oV at hi;split at hi
  ·cases hi;exact hw
  ·split at hi
   ·cases hi
   ·split at hi
    ·rename_i h;rcases h.2 with h|h<;>cases h
    ·cases hi
 ·intro i j C x D y OS hi hj;exfalso;have key:∀k E z,oV none B (fun _=>0) uG k=some (E,z)->k=6:=fun k E z hk=>by
   unfold oV at hk;split at hk
   ·assumption
   ·split at hk
    ·cases hk
    ·split at hk
     ·rename_i h;rcases h.2 with h|h<;>cases h
     ·cases hk
  exact OS ((key _ _ _ hi).trans (key _ _ _ hj).symm)
theorem KC(hf:Fr aX a U):aE 20 #[] U fun e w'=>∃T,e=.returned (.pointer (some ⟨T,0,none⟩))/\dz none a w' T uG/\Fr aX U w':=by
 go_enter func20,ntmps20;go_wp2_with fail
 refine(YT U).mono ?_;rintro e u⟨B,pv,rfl,hw,hu⟩;have HE:=O (Va (a:=a) (W:=u.alloc (.cells (zu (.pointer (some ⟨B,0,none⟩)) (fun _ _=>0)).toArray 78)) (T:=u.heap.size) (B:=B) (pv:=pv) ((hf.trans hu).alloc _) (hf.trans hu).size (aC _ _) ((hw _ hf.size).dx ((ae aX u).alloc _)));have HUF:=O hu;clear hw hu;obtain⟨x,hx⟩:∃x,x=zu (.pointer (some ⟨B,0,none⟩)) (fun _ _=>0):=⟨_,rfl⟩;have HX:=O hx
 rw[<-hx]at HE;dsimp only;refine ‹∀ (a:Act) (w:World),wpList _ _ _ _ a w->_› _ _ ?_;refine wpList_buildTo rfl 78 _ rfl (some 2) rfl [(0,.pointer (some ⟨B,0,none⟩))] (by simp only[eM,cA,du];rfl) x.toArray (by rw[HX.o];exact U_ B) ?_;clear hx;refine wpList_boxTo rfl 78 (.tmp 2) rfl (some 3) rfl x.toArray rfl ?_;go_wp2;go_ret;exact⟨_,rfl,HE.o,HUF.o.alloc _⟩
end
theorem Vb(f:Nat->Nat->Int):prog.built 78 [(1,.agg (kJ f).toArray)]=some (zu (.pointer none) f).toArray:=af
theorem Vc:(prog.info? 78).map (·.zero)=some (some (.agg (zu (.pointer none) (fun _ _=>0)).toArray)):=af
theorem Vd:(prog.info? 78).map (·.size)=some 289:=af
theorem YV(f:Nat->Nat->Int):(zu (.pointer none) f).toArray.all (·.oneCell')=true :=
 cE (by
  intro u hu;unfold zu at hu;rcases bE.1 hu with rfl|hu
  ·rfl
  ·rcases bO.1 hu with hu|hu
   ·unfold kJ at hu;simp only[bE,bU,dL]at hu;rcases hu with rfl|rfl|rfl|rfl|rfl|rfl|rfl|rfl|rfl|rfl|rfl|rfl|rfl|rfl|rfl|rfl<;>rfl
   ·rcases bO.1 hu with hu|hu
    ·obtain⟨l,hl,hul⟩:=fG.1 hu;rw[List.eq_of_mem_replicate hl]at hul;have:=Du ib zeroV rfl rfl;rw[List.all_toArray,fY]at this;exact this u hul
    ·simp only[bE,bU,dL]at hu;rcases hu with rfl|rfl<;>rfl)
theorem YW(p:Value)(f:Nat->Nat->Int){q:Nat}(hq:q<4)(hi:i<4):(zu p f).toArray[1+q*4+i]?=some (.int .i64 (f q i)):=by
 have:=Om f hq hi;rw[List.getElem?_toArray,Nat.add_assoc];unfold zu;rw[Nat.add_comm 1,List.getElem?_cons_succ,List.getElem?_append_left (by rw[nr];omega)];exact this
def zv(U:World)(f:Nat->Nat->Int):World:=(((U.alloc (.cells bP 46)).alloc (.cells (zu (.pointer none) (fun _ _=>0)).toArray 78)).setRow (U.heap.size+1) (zu (.pointer none) f).toArray)
def Bo(U:World)(f:Nat->Nat->Int):World:=((zv U f).alloc (.cells #[.slice none 0 0] 109)).alloc (.cells #[.slice none 0 0] 109)
section
variable {xw : Option (Nat × ed)} {a U U' : World} {T : Nat} {t : iI}
theorem FC(U:World)(f:Nat->Nat->Int):(zv U f).heap.size=U.heap.size+2:=by
 unfold zv;rw[World.setRow];simp[Array.size_modify]
theorem Dy(U:World)(f:Nat->Nat->Int):Fr aX U (Bo U f)/\(Bo U f).heap.size=U.heap.size+4/\(Bo U f).heap[U.heap.size]?=some (.cells bP 46 (0,0))/\(Bo U f).heap[U.heap.size+1]?=some (.cells (zu (.pointer none) f).toArray 78 (0,0))/\(Bo U f).heap[U.heap.size+2]?=some (.cells #[.slice none 0 0] 109 (0,0))/\(Bo U f).heap[U.heap.size+3]?=some (.cells #[.slice none 0 0] 109 (0,0)):=by
 have s1:(U.alloc (.cells bP 46)).heap.size=U.heap.size+1:=aS;have b1:=aC (U.alloc (.cells bP 46)) (.cells (zu (.pointer none) (fun _ _=>0)).toArray 78);rw[s1]at b1;have b2:(zv U f).heap[U.heap.size+1]?=some (.cells (zu (.pointer none) f).toArray 78 (0,0)):=nS b1;have f0:Fr aX U (U.alloc (.cells bP 46)):=(ae _ _).alloc _
 have f1:Fr aX (U.alloc (.cells bP 46)) (zv U f):=jG ((ae _ _).alloc _) (by rw[s1];exact az _) _;have r1:(zv U f).heap[U.heap.size]?=some (.cells bP 46 (0,0)):=f1.keep (aC U _) id;have sw:=FC U f;have a1:=aC (zv U f) (.cells #[.slice none 0 0] 109);have a2:=aC ((zv U f).alloc (.cells #[.slice none 0 0] 109)) (.cells #[.slice none 0 0] 109)
 have s2:((zv U f).alloc (.cells #[.slice none 0 0] 109)).heap.size=U.heap.size+3:=by simp[sw]
 rw[sw]at a1;rw[s2]at a2;have f2:Fr aX (zv U f) ((zv U f).alloc (.cells #[.slice none 0 0] 109)):=(ae _ _).alloc _;have f3:Fr aX ((zv U f).alloc (.cells #[.slice none 0 0] 109)) (Bo U f):=(ae _ _).alloc _;exact⟨((f0.trans f1).trans f2).trans f3,by unfold Bo;simp[sw],f3.keep (f2.keep r1 id) id,f3.keep (f2.keep b2 id) id,f3.keep a1 id,a2⟩
structure St1 (U:World) (f:Nat->Nat->Int) (V:World):Prop where
 rep:V.heap[U.heap.size]?=some (.cells bP 46 (0,0))
 was:V.heap[U.heap.size+1]?=some (.cells (zu (.pointer none) f).toArray 78 (0,0))
 var:V.heap[U.heap.size+3]?=some (.cells #[.slice none 0 0] 109 (0,0))
 kept:gH U V
theorem St1.keeps(U:World)(f:Nat->Nat->Int)(hb:U.heap.size+4<=base):xZ base (U.heap.size+2) (St1 U f):=by
 intro V V' Z h hf hz;have key:∀n,n<U.heap.size+4->n≠U.heap.size+2->¬Z n:=fun n h1 h2 h3=>by
  rcases hz n h3 with e|⟨e,_⟩
  ·exact h2 e
  ·omega
 exact⟨hf.keep h.rep (key _ ab ab),hf.keep h.was (key _ ab ab),hf.keep h.var (key _ ab ab),h.kept.step hf fun n c e hn _ _ q=>key n ab ab q⟩
structure V9 (U:World) (f:Nat->Nat->Int) (bs:Nat) (va:Value) (l:List Int) (V:World):Prop where
 rep:V.heap[U.heap.size]?=some (.cells bP 46 (0,0))
 was:V.heap[U.heap.size+1]?=some (.cells (zu (.pointer none) f).toArray 78 (0,0))
 var:V.heap[U.heap.size+2]?=some (.cells #[va] 109 (0,0))
 rows:OwnRows bs 3 1 V va (l.map uX)
 kept:gH U V
theorem V9.keeps(U:World)(f:Nat->Nat->Int)(hb:U.heap.size+4<=base)(hv:∀b,va.ownBlock=some b->b<base/\b≠U.heap.size+3):xZ base (U.heap.size+3) (V9 U f bs va l):=by
 intro V V' Z h hf hz;have key:∀n,n<base->n≠U.heap.size+3->¬Z n:=fun n h1 h2 h3=>by
  rcases hz n h3 with e|⟨e,_⟩
  ·exact h2 e
  ·omega
 exact⟨hf.keep h.rep (key _ ab ab),hf.keep h.was (key _ ab ab),hf.keep h.var (key _ ab ab),h.rows.fr hf fun b hb q=>key b (hv b hb).1 (hv b hb).2 q,h.kept.step hf fun n c e hn _ _ q=>key n ab ab q⟩
theorem V9.dx{V':World}(h:V9 U f bs va l V)(hf:Fr aX V V'):V9 U f bs va l V' :=
 ⟨hf.keep h.rep id,hf.keep h.was id,hf.keep h.var id,h.rows.fr hf (fun _ _ h=>h),h.kept.trans (eH hf)⟩
theorem QQ(h:dz xw a U T t)(f:Nat->Nat->Int)(hW:W=Bo U f)(o:jI)(hs:List gT)(ho:gM W o hs) :
  aE 49 #[.pointer (some ⟨T,0,none⟩),.agg o.cells.toArray,.func (.func 50) #[] #[.pointer (some ⟨U.heap.size+2,0,none⟩)]] W fun e w'=>e=.returned (.tuple #[])/\zt xw a T t (U.heap.size+4) (U.heap.size+2) t.num (St1 U f) (j_ (o.dX hs)) w':=by
 subst hW;obtain⟨c1,c2,c3,c4,c5,c6⟩:=Dy U f;have hk:=St1.keeps U f (az _);refine vV (Bo U f) T o hs _ _ call50 (zt xw a T t (U.heap.size+4) (U.heap.size+2) t.num (St1 U f)) ?_ (fun d V V' hV hf=>hV.dx hk hf) (U6 hk) ho;have:=h.fr.size;exact⟨h.dx c1,⟨_,c5,dp _ _ _ _⟩,⟨ab,ab,ab⟩,⟨c3,c4,c6,eH c1⟩⟩
theorem M8{l:List (Nat×Nat)}(hV:zt xw a T t (U.heap.size+4) (U.heap.size+2) t.num (St1 U f) l V)(o:jI)(hs:List gT)(ho:gM V o hs) :
  ∃va,aE 49 #[.pointer (some ⟨U.heap.size+1,0,none⟩),.agg o.cells.toArray,.func (.func 51) #[] #[.pointer (some ⟨U.heap.size+3,0,none⟩)]] V fun e w'=>e=.returned (.tuple #[])/\zt xw a T t V.heap.size (U.heap.size+3) f (V9 U f (U.heap.size+4) va (zr l t.num)) (j_ (o.dX hs)) w':=by
 obtain⟨va,v1,v2⟩:=hV.rows;have hl:=hV.low;have hk:xZ V.heap.size (U.heap.size+3) (V9 U f (U.heap.size+4) va (zr l t.num)):=V9.keeps U f hl.2.1 fun b hb=>⟨v2.lt b hb,by have:=v2.block b hb;omega⟩
 refine⟨va,vV V _ o hs _ _ call51 (zt xw a T t V.heap.size (U.heap.size+3) f (V9 U f (U.heap.size+4) va (zr l t.num))) ?_ (fun d V V' hV hf=>hV.dx hk hf) (U7 hk (fun W hW=>⟨_,hW.was,fun q i hq hi=>YW _ f hq hi⟩)) ho⟩;exact⟨hV.tabs,⟨_,hV.rest.var,dp _ _ _ _⟩,⟨ab,az _,ab⟩,⟨hV.rest.rep,hV.rest.was,v1,v2,hV.rest.kept⟩⟩
theorem Ve{l:List (Nat×Nat)}(hl:l=j_ o)(hV:zt xw a T t bs (U.heap.size+3) f (V9 U f (U.heap.size+4) va (zr l t.num)) l V) :
  ∃vb,V.cell? ⟨U.heap.size+2,0,none⟩=some va/\V.cell? ⟨U.heap.size+3,0,none⟩=some vb/\(∃a1 n1 c1,va=.slice a1 n1 c1)/\(∃a1 n1 c1,vb=.slice a1 n1 c1)/\aE 52 #[va,vb] V fun e w'=>e=.returned (.bool (decide (qw o t.num=qw o f)))/\Fr aX V w':=by
 obtain⟨vb,w1,w2⟩:=hV.rows;have r:=hV.rest;obtain⟨a1,c1,e1⟩:=r.rows.form;obtain⟨a2,c2,e2⟩:=w2.form;refine⟨vb,by simp[World.cell?,r.var],by simp[World.cell?,w1],⟨_,_,_,e1⟩,⟨_,_,_,e2⟩,?_⟩;have:=adr (l:=zr l t.num) (l':=zr l f) r.rows.at w2.at (by rw[vX,vX]) (by rw[vX,hl];have:=Kz o;omega);rw[hl]at this;exact this
end
section
variable {xw : Option (Nat × ed)} {a U U' : World} {T : Nat} {t : iI}
def Ou(xw:Option (Nat×ed))(a U:World)(T:Nat)(r:iI×(kq×Bool))(e:Ending)(w':World):Prop :=
 e=.returned (.tuple #[.agg #[.int .i64 r.2.1.what,.string r.2.1.head,.int .i64 r.2.1.cert],.bool r.2.2,.nilIface])/\dz xw a w' T r.1/\gH U w'
theorem BM{r:kq×Bool}(h:dz xw a W T t')(hk:gH U W)(hR:U.heap.size<=R)(ha:a.heap.size<=R)(hr:W.heap[R]?=some (.cells bP 46 (0,0)))(cs:bW)(he:e=.returned (.tuple #[.agg #[.int .i64 r.1.what,.string r.1.head,.int .i64 r.1.cert],.bool r.2,.nilIface])):Ou xw a U T (t',r) e (W.setRow R cs) :=
 ⟨he,h.far ((ae (one R) _).setRow (fun _=>rfl) _) (fun n hn=>by have e':n=R:=hn;omega) (fun n hn=>by cases(show n=R from hn);exact⟨_,_,hr,GV⟩),hk.new ((ae (one R) _).setRow (fun _=>rfl) _) hR⟩
theorem YX(t:iI)(n:Nat)(x y:vR):(t.put n x).put n y=t.put n y:=by
 unfold iI.put;simp only
 congr 1
 funext i
 split<;>rfl
theorem ka.fits{v:ql}(h:ka base V (v.o,v.hs) o):gM V v.o v.hs/\v.o.dX v.hs=o:=⟨h.fit,h.is⟩
theorem M9(h:dz xw a U T t)(hi:i<6)(hd:(t.tab i).does=3)(hk:k<1000000)(hf:iC k t)(hl:t.ic.length<1000000) :
  aE 31 #[.pointer (some ⟨T,0,none⟩),.int .i64 i,.pointer (some ⟨T,17+i*45,none⟩)] U (Ou xw a U T (jh t i)):=by
 have hd0:(t.tab i).does≠0:=ab;obtain⟨c1,c2,c3,c4,c5,c6⟩:=Dy U (t.tab i).num;obtain⟨W4,hW4⟩:∃W4,W4=Bo U (t.tab i).num:=⟨_,rfl⟩;rw[<-hW4]at c1 c2 c3 c4 c5 c6;have h4:=h.dx c1;obtain⟨v, -, v1, -, -, v4⟩:=h4.at hi;obtain⟨v4a,v4b⟩:=(v4 hd0).fits;have HV1:=O v1;have QL:=O (QQ h (t.tab i).num hW4 v.o v.hs v4a);rw[v4b]at QL;have nZ:=h.lt;obtain⟨_, -, -, n0, -, -⟩:=h.at hi
 have HN0:=O (show(U.alloc (.cells bP 46)).rangeAt T (17+i*45+26) (kJ (t.tab i).num)from pF n0 ((ae aX U).alloc _) id);have Ms:=O hW4;have HKT:=O hk;have YY:=O hf;have HL:=O hl;have HD:=O hd;have HI:=O hi;have HA:=O h.fr.size
 have N_:=O (show((U.alloc (.cells bP 46)).alloc (.cells (zu (.pointer none) (fun _ _=>0)).toArray 78)).heap[U.heap.size+1]?=some (.cells (zu (.pointer none) (fun _ _=>0)).toArray 78 (0,0))from by
  have:=aC (U.alloc (.cells bP 46)) (.cells (zu (.pointer none) (fun _ _=>0)).toArray 78);simpa using this)
 obtain⟨f,hf'⟩:∃f,f=(t.tab i).num:=⟨_,rfl⟩;rw[<-hf']at HN0 QL Ms;have HF:=O hf';clear h h4 v1 v4 v4a v4b n0 c1 c2 c3 c4 c5 c6 hW4 hk hf hl hd hd0 hf';unfold Bo at Ms;go_enter func31,ntmps31
 go_wp2_with (first|((with_reducible refine dt 18 ?_);refine bu rfl 73 (.tmp 17) rfl T (17+i*45+26) rfl (kJ f) _ HN0.o underlying73 rfl af ?_;refine wpList_buildTo rfl 78 _ rfl (some 19) rfl [(1,.agg (kJ f).toArray)] (by simp only[eM,cA,du];rfl) (zu (.pointer none) f).toArray (Vb f) ?_;refine uI rfl 78 rfl (some 9) rfl (zu (.pointer none) (fun _ _=>0)).toArray Vc (U.heap.size+1) aS ?_;refine aI rfl 78 (.tmp 9) (.tmp 19) rfl (U.heap.size+1) (zu (.pointer none) f).toArray rfl rfl 78 (zu (.pointer none) (fun _ _=>0)).toArray N_.o Vd rfl (YV f) ?_;change wpList _ _ _ _ _ (zv U f);have KQ:=FC U f;generalize zv U f=W2 at *)|((with_reducible refine dt 24 ?_);rw[<-Ms.o];refine bu rfl 33 (.tmp 23) rfl T (17+i*45+1) rfl v.o.cells _ HV1.o underlying33 rfl af ?_)|fail)
 refine QL.o.mono ?_;rintro e u⟨rfl,hu⟩;clear KQ Ms HV1 QL N_ HN0;obtain⟨v2, -, m1, -, -, m4⟩:=hu.tabs.at HI.o;obtain⟨m4a,m4b⟩:=(m4 (by rw[HD.o];decide)).fits;obtain⟨va,hcs⟩:=M8 hu v2.o v2.hs m4a;rw[m4b]at hcs;have HV2:=O m1;have xb:=O hcs;clear hu m1 m4 m4a m4b hcs
 go_wp2_with (first|((with_reducible refine dt 30 ?_);refine bu rfl 33 (.tmp 29) rfl T (17+i*45+1) rfl v2.o.cells _ HV2.o underlying33 rfl af ?_)|fail)
 refine xb.o.mono ?_;rintro e u2⟨rfl,nP⟩;obtain⟨vb,d1,d2,⟨a1,n1,b1,rfl⟩,⟨a2,n2,b2,rfl⟩,hce⟩:=Ve rfl nP;have HCE:=O hce;have uk:=O nP;clear nP hce HV2 xb;go_wp2_with fail
 refine HCE.o.mono ?_;rintro e u3⟨rfl,BH⟩;have Qr:=O (uk.o.tabs.dx BH);have r3:=uk.o.rest.dx BH;have Tm:=O r3.rep;have QC:=O r3.kept;clear d1 d2 BH r3 HCE uk;rw[HF.o];clear HF;obtain⟨R,hR⟩:∃R,R=U.heap.size:=⟨_,rfl⟩;have V_:=O (show U.heap.size<=R from ab);have Wa:=O (show a.heap.size<=R by have:=HA.o;omega);rw[<-hR]at Tm ⊢;clear hR;have hfi:=YY.o.fails i
 by_cases hv:qw (t.tab i).op t.num=qw (t.tab i).op (t.tab i).num
 ·rw[bD hv];obtain⟨v3, -, k1, -, k3,k4⟩:=Qr.o.at HI.o;obtain⟨k4a,k4b⟩:=(k4 (by rw[HD.o];decide)).fits;have wU:=tH u3 v3.o v3.hs k4a;rw[k4b]at wU;have D1:=O wU;have Z9:=O k1;clear wU k1 k3 k4 k4a k4b hfi;cases hw:(dV (t.tab i).op).2
  ·as_aux_lemma =>
    have HE:=O (show jh t i=(iZ t i (t.tab i).fP,(t.tab i).fP,true)by unfold jh;rw[aB hv,hw];rfl);rw[hw]at D1;clear hv hw;go_wp2_with (first|((with_reducible refine dt 66 ?_);refine bu rfl 33 (.tmp 65) rfl T (17+i*45+1) rfl v3.o.cells _ Z9.o underlying33 rfl af ?_)|fail)
    refine D1.o.mono ?_;rintro e u4⟨rfl,Mw⟩;have ht4:=Qr.o.dx Mw;obtain⟨-, -, -, -, k3, -⟩:=ht4.at HI.o;have HV4:=O k3;have HEN:=O (Dw ht4 HI.o (t.tab i).fP (by rw[HD.o];decide) HL.o);have V0:=O (Mw.keep Tm.o id);have WO:=O (QC.o.trans (eH Mw));clear Mw ht4 k3 D1 Z9 Qr Tm QC;generalize (t.tab i).fP=rr at *
    go_wp2_with (first|((with_reducible refine dt 99 ?_);refine bu rfl 46 (.tmp 98) rfl T (17+i*45+42) rfl (pU rr) _ HV4.o underlying46 rfl af ?_)|fail)
    refine HEN.o.mono ?_;rintro e u5⟨rfl,z1,z2⟩;have KZ:=O (z2.block V0.o rF);have Wb:=O z1;have HZ2:=O (WO.o.trans z2);clear z1 z2;go_wp2_with (first|((with_reducible refine cU 46 ?_);refine aI rfl 46 (.tmp 6) (.tmp 101) rfl R #[.int .i64 rr.what,.string rr.head,.int .i64 rr.cert] rfl rfl _ bP KZ.o (ba _ rfl) rfl bS ?_)|fail)
    refine aR (ji bB _ _ R 46 #[.int .i64 rr.what,.string rr.head,.int .i64 rr.cert] (0,0) _ rfl (aY _ R _ _ _ _ KZ.o) underlying46 rfl (ba _ rfl)) rfl ?_;rw[HE.o];exact BM Wb.o HZ2.o V_.o Wa.o KZ.o _ rfl
  ·as_aux_lemma =>
    have HE:=O (show jh t i=(iZ {t with w:=lu t.w (t.tab i).seen (t.tab i).op.part (dV (t.tab i).op).1,num:=vS (t.tab i).op t.num} i (t.tab i).fP,(t.tab i).fP,true)by unfold jh;rw[aB hv,hw];rfl);rw[hw]at D1;clear hv hw;go_wp2_with (first|((with_reducible refine dt 66 ?_);refine bu rfl 33 (.tmp 65) rfl T (17+i*45+1) rfl v3.o.cells _ Z9.o underlying33 rfl af ?_)|fail)
    refine D1.o.mono ?_;rintro e u4⟨rfl,Mw⟩;have ht4:=Qr.o.dx Mw.drew;have V0:=O (show u4.drew.heap[R]?=some (.cells bP 46 (0,0))from Mw.drew.keep Tm.o id);have WO:=O (QC.o.trans (eH Mw.drew));obtain⟨B,g,sv,sb,p1,p2,p3,p4⟩:=ht4.ex;have pX:=(p4 i HI.o).2 (Or.inr HD.o);have BG:(g i).o.aF.part=(t.tab i).op.part:=by rw[<-((p4 i HI.o).1 (by rw[HD.o];decide)).is];rfl
    have OP:=O (dz.main p1 p2 p3 p4 ht4.low ht4.fr (x':=lu t.w (t.tab i).seen (t.tab i).op.part (dV (t.tab i).op).1) (fun pv hw=>by
     obtain⟨qv,hq⟩:=p2.at (i:=i) (B:=sb i) (x:=(t.tab i).seen) (by
      have:=HI.o;unfold oV;rw[ay ab,ay ab,aB ⟨HI.o,Or.inr HD.o⟩])
     exact QK hw hq (YY.o.seen i (Or.inr HD.o)) (t.tab i).op.part (QE _)))
    have m0:=p1.main;have m25:u4.drew.cell? ⟨T,17+i*45+25,none⟩=some (.pointer (some ⟨sb i,0,none⟩)):=by rw[<-pX];exact p1.tab i HI.o 25 _ rfl
    have m2:u4.drew.cell? ⟨T,17+i*45+1+1,none⟩=some (.int .i64 (t.tab i).op.part):=by rw[<-BG];exact p1.tab i HI.o 2 _ rfl
    have xm:=O pX;have HPT:=O BG;clear Mw ht4 p1 p2 p3 p4 pX BG D1 Z9 Qr Tm QC;obtain⟨cn,hcn⟩:∃cn:Nat,cn=(dV (t.tab i).op).1:=⟨_,rfl⟩;obtain⟨pt,BG⟩:∃pt:Int,pt=(t.tab i).op.part:=⟨_,rfl⟩;have HCN:=O hcn;have HPN:=O BG;rw[<-hcn, <-BG]at OP;rw[<-BG]at m2;rw[<-hcn];clear hcn BG;go_wp2_with fail
    refine wp_region_held_drew (S:=(fun V=>V.cell? ⟨T,0,none⟩=some (.pointer (some ⟨B,0,none⟩))/\V.cell? ⟨T,17+i*45+25,none⟩=some (.pointer (some ⟨sb i,0,none⟩))/\V.cell? ⟨T,17+i*45+1+1,none⟩=some (.int .i64 pt))) af (by exact⟨m0,m25,m2⟩) ?_;intro xg;refine aP 0 71 rfl ?_;refine aP 1 72 rfl ?_;refine aP 2 73 rfl ?_;refine aP 3 74 rfl ?_;refine aP 4 75 rfl ?_;refine aP 5 76 rfl ?_;refine aP 6 77 rfl ?_
    refine aP 7 78 rfl ?_;refine aP 8 79 rfl ?_;refine aP 9 80 rfl ?_;refine aP 10 81 rfl ?_;refine aP 11 82 rfl ?_;refine aP 12 83 rfl ?_;refine aP 13 84 rfl ?_;refine aP 14 85 rfl ?_;refine eE 15 rfl fun K hK=>?_;go_simp;refine OP.o.mono ?_;rintro e u5⟨rfl,z1,z2,z3⟩;have Wb:=O z1;have KZ:=O ((gH.ML z3).block V0.o rF);have HK5:=O (WO.o.trans (gH.ML z3))
    have wM:u5.cell? ⟨T,0,none⟩=some (.pointer (some ⟨B,0,none⟩))/\u5.cell? ⟨T,17+i*45+25,none⟩=some (.pointer (some ⟨sb i,0,none⟩))/\u5.cell? ⟨T,17+i*45+1+1,none⟩=some (.int .i64 pt):=⟨z2.main,by rw[<-xm.o];exact z2.tab i HI.o 25 _ rfl,by rw[HPN.o, <-HPT.o];exact z2.tab i HI.o 2 _ rfl⟩;refine hK.out _ _ wM ?_;intro yb;clear hK K xg wM yb z1 z2 z3 m0 m25 m2 OP V0 WO;refine wpAnyH_done af ?_ _
    have ht5:=Wb.o;obtain⟨v6, -, k1, -, -, k4⟩:=ht5.at HI.o;obtain⟨k4a,k4b⟩:=(k4 (show((t.tab i).does≠0)by rw[HD.o];decide)).fits;have hkp:M5 T (fun V=>V.heap[R]?=some (.cells bP 46 (0,0))/\gH U V):=fun V V' c hS hc hF=>⟨hF.keep hS.1 (fun e=>by
     cases(show R=T from e);have:=hS.1;rw[hc]at this;cases this),hS.2.tabs hc hF⟩
    have hnu:=vV u5 T v6.o v6.hs _ #[] call55 (U8 xw a T {t with w:=lu t.w (t.tab i).seen pt cn} (fun V=>V.heap[R]?=some (.cells bP 46 (0,0))/\gH U V)) ⟨by rw[QM];exact ht5,KZ.o,HK5.o⟩ (fun d V V' hV hf=>hV.dx hkp hf) (YR hkp (fun p i=>⟨(YY.o.num p i).1,by have h1:=(YY.o.num p i).2;have h2:=HKT.o;show t.num p i<_;omega⟩)) k4a;rw[show v6.o.dX v6.hs=(t.tab i).op from k4b]at hnu;have HNU:=O hnu
    have HV6:=O k1;clear ht5 k1 k4 k4a k4b hkp hnu Wb KZ HK5;go_wp2_with (first|((with_reducible refine dt 91 ?_);refine bu rfl 33 (.tmp 90) rfl T (17+i*45+1) rfl v6.o.cells _ HV6.o underlying33 rfl af ?_)|fail)
    refine HNU.o.mono ?_;rintro e u6⟨rfl,hu6⟩;have ht6:=hu6.tabs;obtain⟨-, -, -, -, k3, -⟩:=ht6.at HI.o;have HV4:=O (show u6.rangeAt T (17+i*45+42) (pU (t.tab i).fP)from k3);have hen:=Dw ht6 HI.o (t.tab i).fP (show(t.tab i).does≠0 by rw[HD.o];decide) HL.o;have V0:=O hu6.rest.1;have WO:=O hu6.rest.2
    have HEE:=O (show({t with w:=lu t.w (t.tab i).seen (t.tab i).op.part (dV (t.tab i).op).1,num:=vS (t.tab i).op t.num}:iI)={({t with w:=lu t.w (t.tab i).seen pt cn}:iI)with num:=vW (j_ (t.tab i).op) t.num}from by rw[HPN.o,HCN.o];rfl);rw[HEE.o]at HE;have HEN:=O hen;clear hu6 ht6 k3 hen HNU HV6 HEE;generalize (t.tab i).fP=rr at *
    go_wp2_with (first|((with_reducible refine dt 99 ?_);refine bu rfl 46 (.tmp 98) rfl T (17+i*45+42) rfl (pU rr) _ HV4.o underlying46 rfl af ?_)|fail)
    refine HEN.o.mono ?_;rintro e u5⟨rfl,z1,z2⟩;have KZ:=O (z2.block V0.o rF);have Wb:=O z1;have HZ2:=O (WO.o.trans z2);clear z1 z2;go_wp2_with (first|((with_reducible refine cU 46 ?_);refine aI rfl 46 (.tmp 6) (.tmp 101) rfl R #[.int .i64 rr.what,.string rr.head,.int .i64 rr.cert] rfl rfl _ bP KZ.o (ba _ rfl) rfl bS ?_)|fail)
    refine aR (ji bB _ _ R 46 #[.int .i64 rr.what,.string rr.head,.int .i64 rr.cert] (0,0) _ rfl (aY _ R _ _ _ _ KZ.o) underlying46 rfl (ba _ rfl)) rfl ?_;rw[HE.o];exact BM Wb.o HZ2.o V_.o Wa.o KZ.o _ rfl
 ·rw[bf hv];have q0:(0:Int)<=((t.tab i).fails:Int):=ab;have q3:((t.tab i).fails:Int)<=3:=ab;have hfz:=Qr.o;obtain⟨B,g,sv,sb,p1, -⟩:=hfz.ex;have c23:u3.cell? ⟨T,17+i*45+23,none⟩=some (.int .i64 (t.tab i).fails):=p1.tab i HI.o 23 _ rfl;have f23:=p1.free (17+i*45+23)
  obtain⟨s1,s2⟩:=hfz.U9 HI.o (j:=23) ag (.int .i64 ((t.tab i).fails+1:Nat)) (x:={t.tab i with fails:=(t.tab i).fails+1}) (fun _=>rfl) rfl id (fun h=>⟨h,rfl⟩);rw[show(((t.tab i).fails+1:Nat):Int)=((t.tab i).fails:Int)+1 from ab]at s1 s2;obtain⟨cT,G3⟩:=hfz.kind;have hRT:R≠T:=fun e=>by
   have:=Tm.o;rw[e,G3]at this;cases this
  have KZ:=O (s2.keep Tm.o (fun e=>hRT e));have HK5:=O (QC.o.tabs G3 s2);have HS1:=O s1;clear hfz p1 s1 s2 G3 Qr Tm QC;by_cases h3:((t.tab i).fails:Int)+1<=3
  ·as_aux_lemma =>
    have HE:=O (show jh t i=(t.put i {t.tab i with fails:=(t.tab i).fails+1,does:=1},rep 0,false)by unfold jh;rw[ay hv,aB ab]);obtain⟨b1,b2⟩:=HS1.o.U9 HI.o (j:=0) ag (.int .i64 1) (x:={t.tab i with fails:=(t.tab i).fails+1,does:=1}) (fun _=>by rw[mV];rfl) (by rw[mV]) (fun _=>by rw[mV];show(t.tab i).does≠0;rw[HD.o];decide) (fun h=>by simp at h);rw[YX,show 17+i*45+0=17+i*45 from rfl]at b1
    rw[show 17+i*45+0=17+i*45 from rfl]at b2;have Q4:=O b1;obtain⟨cT5,aii⟩:=HS1.o.kind;have Hn:=O (b2.keep KZ.o (fun e=>hRT e));have HK6:=O (HK5.o.tabs aii b2);obtain⟨B5,g5,sv5,sb5,p5, -⟩:=HS1.o.ex;have c0:=p5.tab i HI.o 0 _ rfl;rw[show 17+i*45+0=17+i*45 from rfl]at c0;have f0:=p5.free (17+i*45);clear hv b1 b2 aii p5 HS1 KZ HK5
    go_wp2_with (first|((with_reducible refine cU 46 ?_);refine aI rfl 46 (.tmp 6) (.tmp 53) rfl R #[.int .i64 0,.string ⟨#[]⟩,.int .i64 0] rfl rfl _ bP Hn.o (ba _ rfl) rfl bS ?_)|fail)
    refine aR (ji bB _ _ R 46 #[.int .i64 0,.string ⟨#[]⟩,.int .i64 0] (0,0) _ rfl (aY _ R _ _ _ _ Hn.o) underlying46 rfl (ba _ rfl)) rfl ?_;rw[HE.o];exact BM Q4.o HK6.o V_.o Wa.o Hn.o _ rfl
  ·as_aux_lemma =>
    have HE:=O (show jh t i=(iZ (t.put i {t.tab i with fails:=(t.tab i).fails+1}) i (rep 6),rep 6,true)by unfold jh;rw[ay hv,ay ab]);have HEN:=O (Dw HS1.o HI.o (rep 6) (by rw[mV];show(t.tab i).does≠0;rw[HD.o];decide) HL.o);clear hv;go_wp2_with fail
    refine HEN.o.mono ?_;rintro e u5⟨rfl,z1,z2⟩;have Hn:=O (z2.block KZ.o rF);have Wb:=O z1;have HZ2:=O (HK5.o.trans z2);clear z1 z2;go_wp2_with (first|((with_reducible refine cU 46 ?_);refine aI rfl 46 (.tmp 6) (.tmp 59) rfl R #[.int .i64 6,.string ⟨#[]⟩,.int .i64 0] rfl rfl _ bP Hn.o (ba _ rfl) rfl bS ?_)|fail)
    refine aR (ji bB _ _ R 46 #[.int .i64 6,.string ⟨#[]⟩,.int .i64 0] (0,0) _ rfl (aY _ R _ _ _ _ Hn.o) underlying46 rfl (ba _ rfl)) rfl ?_;rw[HE.o];exact BM Wb.o HZ2.o V_.o Wa.o Hn.o _ rfl
end
section
variable {xw : Option (Nat × ed)} {a U U' : World} {T : Nat} {t : iI}
def oI(xw:Option (Nat×ed))(a U:World)(T:Nat)(r:iI×(kq×Bool×Nat))(e:Ending)(w':World):Prop :=
 e=.returned (.tuple #[.agg #[.int .i64 r.2.1.what,.string r.2.1.head,.int .i64 r.2.1.cert],.bool r.2.2.1,Bm r.2.2.2])/\dz xw a w' T r.1/\gH U w'
theorem step_end{r:kq×Bool×Nat}(h:dz xw a W T t')(hk:gH U W)(hR:U.heap.size<=R)(ha:a.heap.size<=R)(hr:W.heap[R]?=some (.cells bP 46 (0,0)))(cs:bW)(he:e=.returned (.tuple #[.agg #[.int .i64 r.1.what,.string r.1.head,.int .i64 r.1.cert],.bool r.2.1,Bm r.2.2])):oI xw a U T (t',r) e (W.setRow R cs) :=
 ⟨he,h.far ((ae (one R) _).setRow (fun _=>rfl) _) (fun n hn=>by have e':n=R:=hn;omega) (fun n hn=>by cases(show n=R from hn);exact⟨_,_,hr,GV⟩),hk.new ((ae (one R) _).setRow (fun _=>rfl) _) hR⟩
def YZ(a:World)(x:ed)(op:jx):Prop:=∀(V:World) (B:Nat) (pv:Nat->dn) (o:jI) (hs:List gT),o.dX hs=op->di a.heap.size V B pv x->Fr aX a V->gM V o hs ->
 aE 30 #[.pointer (some ⟨B,0,none⟩),.agg o.cells.toArray] V fun e w'=>e=.returned (.agg #[.int .i64 (nj x op).2.what,.string (nj x op).2.head,.int .i64 (nj x op).2.cert])/\dy a.heap.size V B pv (nj x op).1 w'
theorem dz.tick(h:dz xw a U T t)(k:Int):dz xw a (U.setCell ⟨T,287,none⟩ (.int .i64 k)) T {t with steps:=k}/\Fr (one T) U (U.setCell ⟨T,287,none⟩ (.int .i64 k)):=by
 obtain⟨B,g,sv,sb,h1,h2,h3,h4⟩:=h.ex;have q:=h1.Ka k;exact⟨k_ (t':={t with steps:=k}) h1 h2 h3 h4 h.low h.fr q rfl (fun _ _ hp=>hp) (fun j hj=>⟨fun hd=>Or.inl ⟨rfl,rfl,rfl,hd⟩,(h4 j hj).2⟩),q.2⟩
theorem dz.cells(h:dz xw a U T t)(hi:i<6):U.cell? ⟨T,17+i*45,none⟩=some (.int .i64 (t.tab i).does)/\U.cell? ⟨T,287,none⟩=some (.int .i64 t.steps)/\(∀k,U.frozen? ⟨T,k,none⟩=false)/\U.rangeAt T 1 (kJ t.num)/\(∀o n,o+n<=289->U.there T o n):=by
 obtain⟨B,g,sv,sb,h1,h2,h3,h4⟩:=h.ex;exact⟨h1.tab i hi 0 _ rfl,h1.steps,fun k=>h1.free k,h1.num,fun o n hn=>h1.there hn⟩
theorem G5{b o:Nat}(h:U.rangeAt b o (p++(q++r)))(hl:q'.length=q.length)(ht:U.there b (o+p.length) q'.length):(U.setCells b (o+p.length) q').rangeAt b o (p++(q'++r)):=fun j v hj=>by
 by_cases h1:j<p.length
 ·rw[List.getElem?_append_left h1]at hj;rw[World.cell?_setCells_out b q' _ U ⟨b,o+j,none⟩ (fun _ _=>Or.inl (show o+j<o+p.length from ab))];exact h j v (by rw[List.getElem?_append_left h1];exact hj)
 ·by_cases h2:j<p.length+q'.length
  ·rw[List.getElem?_append_right ab,List.getElem?_append_left ab]at hj;have:=World.rangeAt_setCells_same U b (o+p.length) q' ht (j-p.length) v hj
   rwa [show o+p.length+(j-p.length)=o+j from ab]at this
  ·rw[List.getElem?_append_right ab,List.getElem?_append_right ab]at hj;rw[World.cell?_setCells_out b q' _ U ⟨b,o+j,none⟩ (fun _ _=>Or.inr (show o+p.length+q'.length<=o+j from ab))];exact h j v (by rw[List.getElem?_append_right ab,List.getElem?_append_right ab, <-hl];exact hj)
theorem fT.Vg(h:fT U T B g sv t)(hn:n<6){x:vR}{w:ql}(hx:mU (t.tab n) (g n)=p++(q++r))(hl:q'.length=q.length)(R7:mU x w=p++(q'++r)) :
  fT (U.setCells T (17+n*45+p.length) q') T B (fun i=>if i=n then w else g i) sv (t.put n x)/\Fr (one T) U (U.setCells T (17+n*45+p.length) q'):=by
 have hlen:p.length+q'.length<=45:=by
  have:=pV x w;rw[R7]at this;simp at this;omega
 refine⟨⟨lz T _ _ q' _ _ h.eK,eS h.main (Or.inl ab),bX h.num T _ q' (Or.inr (Or.inl (by rw[nr];omega))),fun m hm=>?_,eS h.steps (Or.inr ab),eS h.st (Or.inr ab)⟩,mz T q' _ _ (ae _ _)⟩;by_cases e:m=n
 ·subst e;show World.rangeAt _ T (17+m*45) (mU (if m=m then x else t.tab m) (if m=m then w else g m));rw[aB rfl,aB rfl,R7];have:=h.tab m hm;rw[hx]at this;exact G5 this hl (h.there ab)
 ·show World.rangeAt _ T (17+m*45) (mU (if m=n then x else t.tab m) (if m=n then w else g m));rw[ay e,ay e];exact bX (h.tab m hm) T _ q' (by
   right;rw[pV];rcases fD m n with q|q
   ·left;omega
   ·right;omega)
theorem Dz{P:Program}{ops:Array Oper}{a:Act}{w:World}{K:Act->World->Prop}{Q:Exit->Act->World->Prop}{E:Prop}{op:Oper}(yc:op.guard=none)(ty:TypeId)(x y:Operand)(ho:op.op=.store ty x y)
  (b o:Nat)(v:Value)(hx:a.eval x=.pointer (some ⟨b,o,none⟩))(hy:a.eval y=v)(hv:v.cells= #[v])
  (ht:w.there b o 1)(hi:(P.info? ty).map (·.size)=some 1)(h1:v.oneCell'=true)
  (h:K (a.put op.dst undef) (w.setCell ⟨b,o,none⟩ v)):if Region.wanted op (yielded ops a.tmps)=true then Oper.wp P op a w K Q else E:=by
 have hw:Region.wanted op (yielded ops a.tmps)=true:=by simp[Region.wanted,yc]
 rw[aB hw];have hr:(storeVar ty ⟨b,o,none⟩ v).run P w=.ok () (w.setCells b o [v]):=by
  have e:storeVar ty ⟨b,o,none⟩ v=storeVar ty ⟨b,o,none⟩ (.agg #[v]):=by
   unfold storeVar;rw[hv];rfl
  rw[e];exact run_storeVar_mid w b o ty #[v] ht hi (by simp[h1])
 unfold Oper.wp execOp;simp only[ho,hx,hy,Instr.storeAt,Instr.sureAddr,Sem.run_bind,Sem.run_pure,Result.andThen_ok,hr];exact h
theorem Vh(r:kq):(pU r).toArray.all (·.oneCell')=true :=
 cE (by
  intro u hu;unfold pU at hu;simp only[bE,bU,dL]at hu;rcases hu with rfl|rfl|rfl<;>rfl)
theorem Vi(f:Nat->Nat->Int):(kJ f).toArray.all (·.oneCell')=true :=
 cE (by
  intro u hu;unfold kJ at hu;simp only[bE,bU,dL]at hu;rcases hu with rfl|rfl|rfl|rfl|rfl|rfl|rfl|rfl|rfl|rfl|rfl|rfl|rfl|rfl|rfl|rfl<;>rfl)
theorem dz.asm{c:bW}(hb:fT W T B g sv t)(hw:xh a.heap.size U (oV xw B sb t))(he:qx a.heap.size U sv t.ic)(ho:∀n,n<6->(t.tab n).does≠0->ka a.heap.size U ((g n).o,(g n).hs) (t.tab n).op)(hp:∀n,n<6->(t.tab n).does=2\/(t.tab n).does=3->(g n).sp=.pointer (some ⟨sb n,0,none⟩))(hc:U.heap[T]?=some (.cells c 78 (0,0)))(hF:Fr (one T) U W)(kO:a.heap.size<=T)(cR:Fr aX a U):dz xw a W T t :=
 ⟨⟨B,g,sv,sb,hb,hw.one kO hc qV.1 qV.2 ag hF,he.one hc ag ag hF,fun n hn=>⟨fun hd=>(ho n hn hd).one hc ag hF,hp n hn⟩⟩,kO,cR.step hF fun k hk e=>by
  have:k=T:=e;omega⟩
theorem QR{B C:Nat}{g:Nat->ql}{sv:Value}{sb:Nat->Nat}{i:Nat}{qv:Nat->dn}(hi:i<6)(h1:fT U T B g sv t)(h2:xh a.heap.size U (oV xw B sb t))(h3:qx a.heap.size U sv t.ic)
  (h4:∀n,n<6->((t.tab n).does≠0->ka a.heap.size U ((g n).o,(g n).hs) (t.tab n).op)/\((t.tab n).does=2\/(t.tab n).does=3->(g n).sp=.pointer (some ⟨sb n,0,none⟩)))(hd:(t.tab i).does≠0)(kO:a.heap.size<=T)(cR:Fr aX a U)
  (hF:Fr aX U U')(hc:di a.heap.size U' C qv t.w)(hn:∀j,mo C qv j->U.heap.size<=j) :
  dz xw a (((U'.setCell ⟨T,17+i*45+25,none⟩ (.pointer (some ⟨C,0,none⟩))).setCells T (17+i*45+26) (kJ t.num)).setCell ⟨T,17+i*45,none⟩ (.int .i64 2)) T (t.put i {t.tab i with seen:=t.w,num:=t.num,does:=2})/\Fr (one T) U' (((U'.setCell ⟨T,17+i*45+25,none⟩ (.pointer (some ⟨C,0,none⟩))).setCells T (17+i*45+26) (kJ t.num)).setCell ⟨T,17+i*45,none⟩ (.int .i64 2))/\((U'.setCell ⟨T,17+i*45+25,none⟩ (.pointer (some ⟨C,0,none⟩))).setCells T (17+i*45+26) (kJ t.num)).cell? ⟨T,17+i*45,none⟩=some (.int .i64 (t.tab i).does)/\(∀k,((U'.setCell ⟨T,17+i*45+25,none⟩ (.pointer (some ⟨C,0,none⟩))).setCells T (17+i*45+26) (kJ t.num)).frozen? ⟨T,k,none⟩=false)/\(U'.setCell ⟨T,17+i*45+25,none⟩ (.pointer (some ⟨C,0,none⟩))).there T (17+i*45+26) 16:=by
 have b1:=h1.fr hF id;have w1:xh a.heap.size U' (oV xw B (fun j=>if j=i then C else sb j) (t.put i {t.tab i with seen:=t.w,num:=t.num,does:=2})):=by
  refine(h2.add hF (i:=i) hc hn).sub fun j p hp=>?_;by_cases e:j=i
  ·subst e;rw[aB rfl];unfold oV at hp;rw[ay ab,ay ab]at hp;simpa[iI.put,hi]using hp
  ·rw[ay e];unfold oV at hp ⊢;by_cases e6:j=6
   ·rw[aB e6]at hp ⊢;exact hp
   ·rw[ay e6]at hp ⊢;simpa[iI.put,e]using hp
 have q1:=b1.BL hi (j:=25) ag (.pointer (some ⟨C,0,none⟩)) (x:=t.tab i) (w:={g i with sp:=.pointer (some ⟨C,0,none⟩)}) rfl;have q2:=q1.1.Vg (n:=i) hi (x:={t.tab i with num:=t.num}) (w:={g i with sp:=.pointer (some ⟨C,0,none⟩)})
  (p:=.int .i64 (t.tab i).does :: ((g i).o.cells++[.int .i64 (t.tab i).fails,.int .i64 (t.tab i).mr,.pointer (some ⟨C,0,none⟩)])) (q:=kJ (t.tab i).num) (q':=kJ t.num) (r:=pU (t.tab i).fP)
  (by simp only[mV,d_];rfl) rfl rfl
 have q3:=q2.1.BL hi (j:=0) ag (.int .i64 2) (x:={t.tab i with num:=t.num,does:=2}) (w:={g i with sp:=.pointer (some ⟨C,0,none⟩)}) (by simp only[mV,d_];rfl);have DN:=(q1.2.trans q2.2).trans q3.2;obtain⟨c,G3,_⟩:=b1.eK;refine⟨?_,DN,?_,q2.1.free,q1.1.there ab⟩
 ·refine dz.asm (q3.1.same (t':=t.put i {t.tab i with seen:=t.w,num:=t.num,does:=2}) rfl (fun n hn=>?_) rfl) w1 (h3.kept (kK hF)) (fun n hn pY=>?_) (fun n hn pY=>?_) G3 DN kO (cR.trans hF)
  ·by_cases e:n=i
   ·subst e;simp only[mV,d_];rfl
   ·simp[iI.put,e]
  ·by_cases e:n=i
   ·subst e;simp only[mV,d_];exact((h4 n hn).1 hd).kept (kK hF)
   ·simp only[iI.put,ay e]at pY ⊢;exact((h4 n hn).1 pY).kept (kK hF)
  ·by_cases e:n=i
   ·subst e;simp
   ·simp only[iI.put,ay e]at pY ⊢;exact(h4 n hn).2 pY
 ·exact q2.1.tab i hi 0 (.int .i64 (t.tab i).does) (by simp only[mV,d_];rfl)
theorem QS{x':ed}(r:kq)(hi:i<6)(h1:fT U T B g sv t)(h2:xh a.heap.size U (oV xw B sb (t.put i {t.tab i with seen:=x'})))(h3:qx a.heap.size U sv t.ic)(h4:∀n,n<6->(t.tab n).does≠0->ka a.heap.size U ((g n).o,(g n).hs) (t.tab n).op)(h5:∀n,n<6->(t.tab n).does=2\/(t.tab n).does=3->(g n).sp=.pointer (some ⟨sb n,0,none⟩))(hd:(t.tab i).does=2)(kO:a.heap.size<=T)(cR:Fr aX a U) :
  dz xw a ((U.setCells T (17+i*45+42) (pU r)).setCell ⟨T,17+i*45,none⟩ (.int .i64 3)) T (t.put i {t.tab i with fP:=r,seen:=x',does:=3})/\Fr (one T) U ((U.setCells T (17+i*45+42) (pU r)).setCell ⟨T,17+i*45,none⟩ (.int .i64 3))/\(U.setCells T (17+i*45+42) (pU r)).cell? ⟨T,17+i*45,none⟩=some (.int .i64 (t.tab i).does)/\(∀k,(U.setCells T (17+i*45+42) (pU r)).frozen? ⟨T,k,none⟩=false)/\U.there T (17+i*45+42) 3:=by
 have q2:=h1.Vg (n:=i) hi (x:={t.tab i with fP:=r}) (w:=g i)
  (p:=.int .i64 (t.tab i).does :: ((g i).o.cells++(.int .i64 (t.tab i).fails :: .int .i64 (t.tab i).mr :: (g i).sp :: kJ (t.tab i).num))) (q:=pU (t.tab i).fP) (q':=pU r) (r:=[])
  rfl rfl rfl
 have q3:=q2.1.BL hi (j:=0) ag (.int .i64 3) (x:={t.tab i with fP:=r,does:=3}) (w:=g i) (by simp only[mV,d_];rfl);have DN:=q2.2.trans q3.2;obtain⟨c,G3,_⟩:=h1.eK;refine⟨?_,DN,?_,q2.1.free,h1.there ab⟩
 ·refine dz.asm (q3.1.same (t':=t.put i {t.tab i with fP:=r,seen:=x',does:=3}) rfl (fun n hn=>?_) rfl) (h2.sub (MK rfl fun n hn pY=>?_)) h3 (fun n hn pY=>?_) (fun n hn pY=>?_) G3 DN kO cR
  ·by_cases e:n=i
   ·subst e;simp only[mV,d_];rfl
   ·simp[iI.put,e]
  ·by_cases e:n=i
   ·subst e;simp[iI.put,hd]
   ·simp only[iI.put,ay e]at pY ⊢;exact⟨pY,trivial⟩
  ·by_cases e:n=i
   ·subst e;simp only[mV,d_];exact h4 n hn ab
   ·simp only[iI.put,ay e]at pY ⊢;exact h4 n hn pY
  ·by_cases e:n=i
   ·subst e;simp only[d_];exact h5 n hn (Or.inl hd)
   ·simp only[iI.put,ay e]at pY ⊢;exact h5 n hn pY
 ·exact q2.1.tab i hi 0 (.int .i64 (t.tab i).does) (by simp only[mV,d_];rfl)
end
section
variable {xw : Option (Nat × ed)} {a U U' : World} {T : Nat} {t : iI}
theorem KD(h:dz xw a U T t)(n:Int)(hk:k+2<=1000000)(hf:iC k t)(hl:t.ic.length<1000000)(QU:∀i,i<6->(t.tab i).does=2->YZ a (t.tab i).seen (t.tab i).op) :
  aE 13 #[.pointer (some ⟨T,0,none⟩),.int .i64 n] U (oI xw a U T (kF t n)):=by
 obtain⟨x1,ov⟩:∃x1,x1=U.alloc (.cells #[.int .i64 0,.string ⟨#[]⟩,.int .i64 0] 46):=⟨_,rfl⟩;have dw:Fr aX U x1:=by rw[ov];exact(ae aX U).alloc _
 have kR0:x1.heap[U.heap.size]?=some (.cells bP 46 (0,0)):=by rw[ov];exact aC _ _
 obtain⟨R,hR⟩:∃R,R=U.heap.size:=⟨_,rfl⟩;rw[<-hR]at kR0;have KR:=O kR0;have HR:=O hR;have HX:=O ov;have HKT:=O (eH dw);have V_:=O (show U.heap.size<=R from ab);have Wa:=O (show a.heap.size<=R by have:=h.fr.size;omega);have h1:=h.dx dw;have H1:=O h1;have HF:=O hf;have HK:=O hk;clear ov kR0 hR;cases hn:xV n
 ·as_aux_lemma =>
   have HE:=O (show kF t n=(t,rep 0,false,2)by unfold kF;rw[hn];rfl);have HC:=O (On x1 T hn);clear hn h h1 hf hk hl QU dw;go_enter func13,ntmps13;go_wp2_with fail
   rw[<-HX.o, <-HR.o];refine HC.o.mono ?_;rintro e u⟨rfl,rfl⟩;unfold Bm;go_wp2_with (first|((with_reducible refine cU 46 ?_);refine aI rfl 46 (.tmp 4) (.tmp 17) rfl R #[.int .i64 0,.string ⟨#[]⟩,.int .i64 0] rfl rfl _ bP KR.o (ba _ rfl) rfl bS ?_)|fail)
   refine aR (ji bB _ _ R 46 #[.int .i64 0,.string ⟨#[]⟩,.int .i64 0] (0,0) _ rfl (aY _ R _ _ _ _ KR.o) underlying46 rfl (ba _ rfl)) rfl ?_;rw[HE.o];exact step_end H1.o HKT.o V_.o Wa.o KR.o _ rfl
 ·obtain⟨i,rfl,hi⟩:=GM hn;have e1:((i:Int)).toNat=i:=rfl;have HC:=O (UE x1 T hi);have HI:=O hi;obtain⟨cd,G7,Vj, -, -⟩:=h1.cells hi;have hdo:=hf.does i;by_cases hd:(t.tab i).does=0
  ·as_aux_lemma =>
    have HE:=O (show kF t (i:Int)=(t,rep 0,false,8)by unfold kF;rw[hn,aB rfl,e1,aB hd]);rw[hd]at cd;clear hn h h1 hf hk hl QU dw hd hdo hi G7 Vj;go_enter func13,ntmps13;go_wp2_with fail
    rw[<-HX.o, <-HR.o];refine HC.o.mono ?_;rintro e u⟨rfl,rfl⟩;go_wp2_with (first|((with_reducible refine cU 46 ?_);refine aI rfl 46 (.tmp 4) (.tmp 39) rfl R #[.int .i64 0,.string ⟨#[]⟩,.int .i64 0] rfl rfl _ bP KR.o (ba _ rfl) rfl bS ?_)|fail)
    refine aR (ji bB _ _ R 46 #[.int .i64 0,.string ⟨#[]⟩,.int .i64 0] (0,0) _ rfl (aY _ R _ _ _ _ KR.o) underlying46 rfl (ba _ rfl)) rfl ?_;rw[HE.o];exact step_end H1.o HKT.o V_.o Wa.o KR.o _ rfl
  ·rcases(show(t.tab i).does=1\/(t.tab i).does=2\/(t.tab i).does=3 from ab)with AZ|tN|hd3
   ·skip
    have HE:=O (show kF t (i:Int)=({(t.put i {t.tab i with seen:=t.w,num:=t.num,does:=2})with steps:=t.steps+1},rep 0,false,0)by unfold kF;rw[hn,aB rfl,e1,ay hd,step1 AZ]);rw[AZ]at cd;have hkr:x1.drew.heap[R]?=some (.cells bP 46 (0,0)):=KR.o;have h2:=h1.dx (aA (ae aX x1));obtain⟨B,g,sv,sb,p1,p2,p3,p4⟩:=h2.ex;obtain⟨pv,hw⟩:=p2.at (i:=6) (B:=B) (x:=t.w) rfl;have Rt:=O (Ai _ _ _ _ _ hw hf.inv.re)
    have TW:=O (fun U' C qv hF hc hn=>QR (U':=U') (C:=C) (qv:=qv) hi p1 p2 p3 p4 ab h2.low h2.fr hF hc hn);have Tl:=O p1;have m0:=p1.main;have mn:=p1.num;clear hn h h1 hf hk hl QU dw hd hdo hi G7 Vj hw p1 p2 p3 p4 h2 hkr;go_enter func13,ntmps13;go_wp2_with fail
    rw[<-HX.o, <-HR.o];refine HC.o.mono ?_;rintro e u⟨rfl,rfl⟩;go_wp2_with fail
    refine wp_region_held_drew (S:=(fun V=>V.cell? ⟨T,0,none⟩=some (.pointer (some ⟨B,0,none⟩))/\V.rangeAt T 1 (kJ t.num))) af (by exact⟨m0,mn⟩) ?_;intro xg;refine aP 0 43 rfl ?_;refine aP 1 44 rfl ?_;refine aP 2 45 rfl ?_;refine aP 3 46 rfl ?_;refine aP 4 47 rfl ?_;refine aP 5 48 rfl ?_;refine aP 6 49 rfl ?_;refine aP 8 51 rfl ?_;refine aP 9 52 rfl ?_;refine aP 10 53 rfl ?_
    refine sR 11 54 rfl (fB bB 73 (.tmp 53) rfl T 1 rfl (kJ t.num) _ (fun w hw=>hw.2) underlying73 rfl af) ?_
    try simp only[Act.put,sA,sB,sC]
    refine eE 7 rfl fun K hK=>?_;go_simp;refine Rt.o.mono ?_;rintro e u2⟨C,qv,rfl,hc,zA,Ga⟩;have q:=TW.o u2 C qv zA hc Ga;obtain⟨q1,q2,q3,q4,q5⟩:=q;have GK:=O q1;have Yd:=O q2;have HTH:=O q5;have b2:=Tl.o.fr zA id;have d25:u2.cell? ⟨T,17+i*45+25,none⟩=some (g i).sp:=b2.tab i HI.o 25 _ rfl;have f25:=b2.free (17+i*45+25);have qe:=O b2;have T4:=O zA;rw[AZ]at q3
    have HS:=O (show u2.cell? ⟨T,0,none⟩=some (.pointer (some ⟨B,0,none⟩))/\u2.rangeAt T 1 (kJ t.num)from⟨b2.main,b2.num⟩);refine hK.out _ _ HS.o ?_;intro wM;clear hK K q1 q2 q5 hc zA Ga b2
    try simp only[Act.put,sA,sB,sC]
    refine aP 12 55 rfl ?_;refine aP 13 56 rfl ?_;clear xg wM;refine eE 14 rfl fun K hK=>?_;go_simp;have yb:(u2.setCell ⟨T,17+i*45+25,none⟩ (.pointer (some ⟨C,0,none⟩))).cell? ⟨T,0,none⟩=some (.pointer (some ⟨B,0,none⟩))/\(u2.setCell ⟨T,17+i*45+25,none⟩ (.pointer (some ⟨C,0,none⟩))).rangeAt T 1 (kJ t.num):=⟨eS (vs:=[_]) HS.o.1 (Or.inl ab),xY HS.o.2 (by rw[nr];omega)⟩;refine hK.out _ _ yb ?_;intro Ea
    clear hK K d25 f25 Ea;generalize u2.setCell ⟨T,17+i*45+25,none⟩ (.pointer (some ⟨C,0,none⟩))=u3 at *
    try simp only[Act.put,sA,sB,sC]
    refine aP 15 57 rfl ?_;refine aP 16 58 rfl ?_;refine wpAnyH_ready (rs:=[17]) af aS ?_;refine AllReadyH.cons (o:=⟨none,_,_,_,_,_⟩) rfl (fun K hK=>?_) AllReadyH.nil;refine rG rfl 73 (.tmp 58) (.tmp 54) rfl T (17+i*45+26) (kJ t.num).toArray rfl rfl HTH.o af (Vi t.num) ?_
    have Ae:(u3.setCells T (17+i*45+26) (kJ t.num)).cell? ⟨T,0,none⟩=some (.pointer (some ⟨B,0,none⟩))/\(u3.setCells T (17+i*45+26) (kJ t.num)).rangeAt T 1 (kJ t.num):=⟨eS yb.1 (Or.inl ab),bX yb.2 T _ _ (Or.inr (Or.inl (by rw[nr];omega)))⟩;refine hK.out _ _ Ae ?_;intro hS5;clear hK K hS5 yb;rw[show(kJ t.num).toArray.toList=kJ t.num from rfl];generalize u3.setCells T (17+i*45+26) (kJ t.num)=u4 at *
    try simp only[Act.put,sA,sB,sC]
    refine aP 18 59 rfl ?_;refine aP 19 60 rfl ?_;refine wpAnyH_ready (rs:=[20]) af aS ?_;have q4':=q4 (17+i*45);have HS4:=O Ae;clear q4;have VX:u4.there T (17+i*45) 1:=fun j hj=>by
     have e:j=0:=ab;subst e;exact⟨by rw[Nat.add_zero,q3];rfl,q4'⟩
    refine AllReadyH.cons (o:=⟨none,_,_,_,_,_⟩) rfl (fun K hK=>?_) AllReadyH.nil;refine Dz rfl 3 (.tmp 60) _ rfl T (17+i*45) (.int .i64 2) rfl rfl rfl VX af rfl ?_;have Ae:=HS4.o
    have hS6:(u4.setCell ⟨T,17+i*45,none⟩ (.int .i64 2)).cell? ⟨T,0,none⟩=some (.pointer (some ⟨B,0,none⟩))/\(u4.setCell ⟨T,17+i*45,none⟩ (.int .i64 2)).rangeAt T 1 (kJ t.num):=⟨eS (vs:=[_]) Ae.1 (Or.inl ab),xY Ae.2 (by rw[nr];omega)⟩;refine hK.out _ _ hS6 ?_;intro hS7;clear hK K hS7 hS6 Ae HS4 q3 q4' VX;generalize u4.setCell ⟨T,17+i*45,none⟩ (.int .i64 2)=u5 at *
    try simp only[Act.put,sA,sB,sC]
    refine wpAnyH_done af ?_ _;generalize (kJ t.num).toArray=nn;have SA:gH U u5:=by
     obtain⟨c,hc,_⟩:=qe.o.eK;exact(HKT.o.trans (eH ((aA (ae aX u)).trans T4.o))).tabs hc Yd.o
    have AF:u5.heap[R]?=some (.cells bP 46 (0,0)):=by
     obtain⟨c,hc,_⟩:=qe.o.eK;refine(((gH.refl u).trans (eH ((aA (ae aX u)).trans T4.o))).tabs hc Yd.o).block KR.o rF
    obtain⟨-, G7,Vj, -, -⟩:=GK.o.cells HI.o;have cf:=Vj 287;have s1:=HF.o.steps.1;have s2:=HF.o.steps.2;have hkk:=HK.o;have ail:u5.cell? ⟨T,287,none⟩=some (.int .i64 t.steps):=G7;obtain⟨tk1,Vk⟩:=GK.o.tick (t.steps+1);have HT1:=O tk1;obtain⟨cT,G3⟩:=GK.o.kind;have HK6:=O (SA.tabs G3 Vk);have Hn:=O (Vk.keep AF (fun e=>by cases(show R=T from e);rw[G3]at AF;cases AF));clear tk1 Vk SA AF G3 G7 Vj
    go_wp2_with (first|((with_reducible refine cU 46 ?_);refine aI rfl 46 (.tmp 4) (.tmp 85) rfl R #[.int .i64 0,.string ⟨#[]⟩,.int .i64 0] rfl rfl _ bP Hn.o (ba _ rfl) rfl bS ?_)|fail)
    refine aR (ji bB _ _ R 46 #[.int .i64 0,.string ⟨#[]⟩,.int .i64 0] (0,0) _ rfl (aY _ R _ _ _ _ Hn.o) underlying46 rfl (ba _ rfl)) rfl ?_;rw[HE.o];exact step_end HT1.o HK6.o V_.o Wa.o Hn.o _ rfl
   ·as_aux_lemma =>
     have HE:=O (show kF t (i:Int)=({(t.put i {t.tab i with fP:=(nj (t.tab i).seen (t.tab i).op).2,seen:=(nj (t.tab i).seen (t.tab i).op).1,does:=3})with steps:=t.steps+1},rep 0,false,0)by unfold kF;rw[hn,aB rfl,e1,ay hd,step2 tN]);rw[tN]at cd;have h2:=h1.dx (aA (ae aX x1));obtain⟨B,g,sv,sb,p1,p2,p3,p4⟩:=h2.ex;obtain⟨go1,go2⟩:=((p4 i hi).1 ab).fits;have pX:=(p4 i hi).2 (Or.inl tN)
     have HDO:=O (dz.seen hi (Or.inl tN) p1 p2 p3 p4 h2.low h2.fr (x':=(nj (t.tab i).seen (t.tab i).op).1) (fun pv hw=>by
      exact QU i hi tN _ _ pv _ _ go2 hw h2.fr go1))
     have HWK:=O (fun U' q1 q2 q3 q4 q5=>QS (U:=U') (B:=B) (xw:=xw) (a:=a) (g:=g) (sv:=sv) (sb:=sb) (x':=(nj (t.tab i).seen (t.tab i).op).1) (nj (t.tab i).seen (t.tab i).op).2 hi q1 q2 q3 q4 (fun n hn=>(p4 n hn).2) tN h2.low q5);have m25:x1.drew.cell? ⟨T,17+i*45+25,none⟩=some (.pointer (some ⟨sb i,0,none⟩)):=by rw[<-pX];exact p1.tab i hi 25 _ rfl
     have mop:x1.drew.rangeAt T (17+i*45+1) (g i).o.cells:=nU (p:=[.int .i64 (t.tab i).does]) (q:=(g i).o.cells) (p1.tab i hi);have xm:=O pX;have HOC:=O (show(g i).o.cells.length=22 from rfl);have Tl:=O p1;obtain⟨r,hr⟩:∃r,r=(nj (t.tab i).seen (t.tab i).op).2:=⟨_,rfl⟩;rw[<-hr]at HDO HWK HE;obtain⟨oc,KS⟩:∃oc,oc=(g i).o.cells:=⟨_,rfl⟩;have HOV:=O KS;rw[<-KS]at HDO mop HOC
     clear hn h h1 hf hk hl QU dw hd hdo hi G7 Vj p1 p2 p3 p4 h2 pX go1 go2 hr KS;go_enter func13,ntmps13;go_wp2_with fail
     rw[<-HX.o, <-HR.o];refine HC.o.mono ?_;rintro e u⟨rfl,rfl⟩;go_wp2_with fail
     refine wp_region_held_drew (S:=(fun V=>V.cell? ⟨T,17+i*45+25,none⟩=some (.pointer (some ⟨sb i,0,none⟩))/\V.rangeAt T (17+i*45+1) oc)) af (by exact⟨m25,mop⟩) ?_;intro xg;refine aP 0 63 rfl ?_;refine aP 1 64 rfl ?_;refine aP 2 65 rfl ?_;refine aP 3 66 rfl ?_;refine aP 4 67 rfl ?_;refine aP 5 68 rfl ?_;refine aP 6 69 rfl ?_;refine aP 7 70 rfl ?_;refine aP 8 71 rfl ?_
     refine sR 9 72 rfl (fB bB 33 (.tmp 71) rfl T (17+i*45+1) rfl oc _ (fun w hw=>hw.2) underlying33 rfl (by rw[HOC.o];kernel_rfl)) ?_
     try simp only[Act.put,sA,sB,sC]
     refine eE 10 rfl fun K hK=>?_;go_simp;refine HDO.o.mono ?_;rintro e u2⟨rfl,⟨y1,y2,y3,y4,y5⟩,y6⟩;obtain⟨q1,q2,q3,q4,q5⟩:=HWK.o u2 y1 y2 y3 y4 y5;have GK:=O q1;have Yd:=O q2;have HTH:=O q5;have qe:=O y1;have HY6:=O (gH.ML y6);rw[tN]at q3
     have HS:=O (show u2.cell? ⟨T,17+i*45+25,none⟩=some (.pointer (some ⟨sb i,0,none⟩))/\u2.rangeAt T (17+i*45+1) oc from⟨by rw[<-xm.o];exact y1.tab i HI.o 25 _ rfl,by rw[HOV.o];exact nU (p:=[.int .i64 (t.tab i).does]) (q:=(g i).o.cells) (y1.tab i HI.o)⟩);refine hK.out _ _ HS.o ?_;intro wM;clear hK K q1 q2 q5 y1 y2 y3 y4 y5 y6 xg wM
     try simp only[Act.put,sA,sB,sC]
     refine aP 11 74 rfl ?_;refine aP 12 75 rfl ?_;refine wpAnyH_ready (rs:=[13]) af aS ?_;refine AllReadyH.cons (o:=⟨none,_,_,_,_,_⟩) rfl (fun K hK=>?_) AllReadyH.nil;refine rG rfl 46 (.tmp 75) (.tmp 73) rfl T (17+i*45+42) (pU r).toArray rfl rfl HTH.o af (Vh r) ?_
     have Ae:(u2.setCells T (17+i*45+42) (pU r)).cell? ⟨T,17+i*45+25,none⟩=some (.pointer (some ⟨sb i,0,none⟩))/\(u2.setCells T (17+i*45+42) (pU r)).rangeAt T (17+i*45+1) oc:=⟨eS HS.o.1 (Or.inl ab),bX HS.o.2 T _ _ (Or.inr (Or.inl (by rw[HOC.o];omega)))⟩;refine hK.out _ _ Ae ?_;intro hS5;clear hK K hS5;rw[show(pU r).toArray.toList=pU r from rfl];generalize u2.setCells T (17+i*45+42) (pU r)=u4 at *
     try simp only[Act.put,sA,sB,sC]
     refine aP 14 76 rfl ?_;refine aP 15 77 rfl ?_;refine wpAnyH_ready (rs:=[16]) af aS ?_;have q4':=q4 (17+i*45);have HS4:=O Ae;clear q4 Ae;refine AllReadyH.cons rfl (fun K hK=>?_) AllReadyH.nil;go_simp;have Ae:=HS4.o
     have hS6:(u4.setCell ⟨T,17+i*45,none⟩ (.int .i64 3)).cell? ⟨T,17+i*45+25,none⟩=some (.pointer (some ⟨sb i,0,none⟩))/\(u4.setCell ⟨T,17+i*45,none⟩ (.int .i64 3)).rangeAt T (17+i*45+1) oc:=⟨eS (vs:=[_]) Ae.1 (Or.inr (by show 17+i*45+1<=_;omega)),bX Ae.2 T (17+i*45) [_] (Or.inr (Or.inr (by show 17+i*45+1<=_;omega)))⟩;refine hK.out _ _ hS6 ?_;intro hS7;clear hK K hS7 hS6 Ae HS4 q3 q4'
     generalize u4.setCell ⟨T,17+i*45,none⟩ (.int .i64 3)=u5 at *
     refine wpAnyH_done af ?_ _;have SA:gH U u5:=by
      obtain⟨c,hc,_⟩:=qe.o.eK;exact(HKT.o.trans ((eH (aA (ae aX u))).trans HY6.o)).tabs hc Yd.o
     have AF:u5.heap[R]?=some (.cells bP 46 (0,0)):=by
      obtain⟨c,hc,_⟩:=qe.o.eK;refine(((gH.refl u).trans ((eH (aA (ae aX u))).trans HY6.o)).tabs hc Yd.o).block KR.o rF
     obtain⟨-, G7,Vj, -, -⟩:=GK.o.cells HI.o;have cf:=Vj 287;have s1:=HF.o.steps.1;have s2:=HF.o.steps.2;have hkk:=HK.o;have ail:u5.cell? ⟨T,287,none⟩=some (.int .i64 t.steps):=G7;obtain⟨tk1,Vk⟩:=GK.o.tick (t.steps+1);have HT1:=O tk1;obtain⟨cT,G3⟩:=GK.o.kind;have HK6:=O (SA.tabs G3 Vk);have Hn:=O (Vk.keep AF (fun e=>by cases(show R=T from e);rw[G3]at AF;cases AF));clear tk1 Vk SA AF G3 G7 Vj
     go_wp2_with (first|((with_reducible refine cU 46 ?_);refine aI rfl 46 (.tmp 4) (.tmp 85) rfl R #[.int .i64 0,.string ⟨#[]⟩,.int .i64 0] rfl rfl _ bP Hn.o (ba _ rfl) rfl bS ?_)|fail)
     refine aR (ji bB _ _ R 46 #[.int .i64 0,.string ⟨#[]⟩,.int .i64 0] (0,0) _ rfl (aY _ R _ _ _ _ Hn.o) underlying46 rfl (ba _ rfl)) rfl ?_;rw[HE.o];exact step_end HT1.o HK6.o V_.o Wa.o Hn.o _ rfl
   ·as_aux_lemma =>
     have HE:=O (show kF t (i:Int)=((jh {t with steps:=t.steps+1} i).1,(jh {t with steps:=t.steps+1} i).2.1,(jh {t with steps:=t.steps+1} i).2.2,0)by unfold kF;rw[hn,aB rfl,e1,ay hd,aaC hd3]);rw[hd3]at cd;have cf:=Vj 287;have s1:=hf.steps.1;have s2:=hf.steps.2;obtain⟨tk1,Vk⟩:=h1.tick (t.steps+1);obtain⟨cT,G3⟩:=h1.kind;have HCM:=O (M9 tk1 hi hd3 (show k+1<1000000 from ab) hf.tick hl)
     have HK5:=O ((eH dw).tabs G3 Vk);have KZ:=O (Vk.keep KR.o (fun e=>by
      cases(show R=T from e);have:=KR.o;rw[G3]at this;cases this))
     clear hn h h1 hf hl QU dw hd hdo hi Vj tk1 Vk G3;go_enter func13,ntmps13;go_wp2_with fail
     rw[<-HX.o, <-HR.o];refine HC.o.mono ?_;rintro e u⟨rfl,rfl⟩;go_wp2_with fail
     refine HCM.o.mono ?_;rintro e w6⟨rfl,z1,z2⟩;have Wb:=O z1;have HZ2:=O z2;have HZR:=O (z2.block KZ.o rF);clear z1 z2;generalize jh {t with steps:=t.steps+1} i=cr at *
     go_wp2_with (first|((with_reducible refine cU 46 ?_);refine aI rfl 46 (.tmp 4) (.tmp 34) rfl R #[.int .i64 cr.2.1.what,.string cr.2.1.head,.int .i64 cr.2.1.cert] rfl rfl _ bP HZR.o (ba _ rfl) rfl bS ?_)|fail)
     refine aR (ji bB _ _ R 46 #[.int .i64 cr.2.1.what,.string cr.2.1.head,.int .i64 cr.2.1.cert] (0,0) _ rfl (aY _ R _ _ _ _ HZR.o) underlying46 rfl (ba _ rfl)) rfl ?_;rw[HE.o];exact step_end Wb.o (HK5.o.trans HZ2.o) V_.o Wa.o HZR.o _ rfl
end
theorem YZ.any{x:ed}{op:jx}(hi:nk x)(ht:kZ a):YZ a x op:=fun V B pv o hs ho hw hf B_=>by
 have:=YG hw hf hi ht B_;rw[ho]at this;exact this
theorem KE{xw:Option (Nat×ed)}{U:World}{t:iI}(h:dz xw a U T t)(n:Int)(hk:k+2<=1000000)(hf:iC k t)(hl:t.ic.length<1000000)(ht:kZ a) :
  aE 13 #[.pointer (some ⟨T,0,none⟩),.int .i64 n] U (oI xw a U T (kF t n)) :=
 KD h n hk hf hl (fun i _ hd=>YZ.any (hf.seen i (Or.inl hd)) ht)
section
variable {xw : Option (Nat × ed)} {a U U' : World} {T : Nat} {t : iI}
def Vr(U:World)(es:List (UB×(jI×List gT)))(l i:Value)(wr:World):Prop :=
 ∃k:Nat,k<=es.length/\i=.int .i64 k/\Fr aX U wr/\∃fs:List (UB×(jI×List gT)),fs.map (·.1)=(es.take k).map (·.1)/\OwnRows U.heap.size 88 28 wr l (fs.map Kc)/\∀x∈fs,ka U.heap.size wr x.2 x.1.op
theorem Vs:(prog.info? 88).map (·.zero)=some (some (.agg Dv)):=af
theorem G':(prog.info? 88).map (·.size)=some 28:=af
theorem Y1{l:a_}(h:∀u∈l,u.oneCell'=true):l.toArray.all (·.oneCell')=true:=cE h
theorem Y2{w9:World}{N:Nat}{ev:UB}{o:jI}{nh:Nat}{ah:fi}{ch:Nat}(a9:fi)(c9:Nat){y:a_}{i0:TypeInfo}(kP:i0.size=28)(hy:y=Rz ev.tab o ah nh ch ev.fP ev.mr ev.fin)(k9:w9.heap[N]?=some (.cells y.toArray 88 (0,0))){wr:World}{v:Value}{xs:cX}(hF:Fr aX wr w9)(hN:N=wr.heap.size)(ho:OwnRows base 88 28 wr v xs) :
  ∃(y2:a_) (W3:World),y2=Rz ev.tab o a9 nh c9 ev.fP ev.mr ev.fin/\W3=w9.setCell ⟨N,12,none⟩ (.slice a9 nh c9)/\W3.heap[N]?=some (.cells y2.toArray 88 (0,0))/\Fr (one N) w9 W3/\y2.length=28/\(∀u∈y2,u.oneCell'=true)/\Instr.fill (fun i=>some (i*i0.size,i0.size)) ((Array.range (1*i0.size)).map ((Value.agg Dv).cells[· %(Value.agg Dv).cells.size]!)) [(0,.agg y2.toArray)]=some y2.toArray/\OwnRows base 88 28 W3 v xs:=by
 have Ry:Fr (one N) w9 (w9.setCell ⟨N,12,none⟩ (.slice a9 nh c9)):=(ae (one N) _).setCell (p:=⟨N,12,none⟩) (fun _=>rfl) _;refine⟨_,_,rfl,rfl,?_,Ry,rfl,GY _ _ _ _ _ _ _ _,by rw[kP];exact M1 _ _ _ _ _ _ _ _,(ho.fr hF (fun _ _ h=>h)).fr Ry (fun b hb e=>?_)⟩
 ·rw[cg k9,hy];rfl
 ·have:=ho.lt b hb;have e':b=N:=e;omega
theorem QV(h:dz xw a U T t)(hl:t.ic.length<1000000) :
  aE 16 #[.pointer (some ⟨T,0,none⟩)] U fun e w'=>∃sv,e=.returned sv/\qx U.heap.size w' sv t.ic/\Fr aX U w':=by
 obtain⟨B,g,sv,sb,h1,h2,⟨es,OE,lU,Bn⟩,h4⟩:=h.ex;obtain⟨YP,YQ,U2⟩:=lU.form;rw[aj]at U2;subst U2;have anH:es.length<1000000:=by rw[<-aj (f:=(·.1)),OE];exact hl
 have HRW:=O (fun V (hV:Fr aX U V)=>bM lU.at hV);have HOP:=O (fun V (hV:Fr aX U V) x (hx:x∈es)=>(Bn x hx).kept (kK hV));have aiq:=h1.st;obtain⟨i0,rL,pA,kP,kR⟩:=info_parts GZ;have HES:=O OE;clear h h1 h2 h4 OE lU Bn;go_enter func16,ntmps16
 go_wp2_with (at_make
              refine wpList_make_own _ rfl _ _ 54 rfl U.heap.size 88 i0 (.agg Dv) 28 underlying54 rL pA kP .i64 .i64 _ es.length rfl rfl rfl (by rw[kR];omega) ft (az _) ?_
              intro w1 qW air
              have PF:Fr aX U w1:=fg (ae _ _) air (fun k hk=>by cases hk)
              have ais:=nI aiq PF id)
 go_loopw[3,17] (Vr U es) (fun _ i _=>es.length-(intOf i).toNat)
 case atStart=>exact⟨0,aW _,rfl,PF,[],rfl,⟨aS,qW⟩,aS⟩
 case round =>
  obtain⟨k,hk,rfl,hF,fs,kx,cQ,Bn⟩:=hrel;obtain⟨al,cl,Q8⟩:=cQ.form;rw[aj]at Q8;subst Q8;clear ais PF qW air aiq;by_cases fE:k<es.length
  ·have dT:=HRW.o wr hF;rcases dT.2 with ⟨_,_,_,e,_⟩|⟨bk,o0,c,hf,g1,g2,g3,g4⟩
   ·have:es=[]:=by simpa using e
    subst this;exact absurd fE (ct _)
   ·rw[aj]at hf;cases hf;have hx:=List.getElem?_eq_getElem fE;generalize es[k]=x at hx;have jc:x∈es:=cL hx;have hr:wr.rangeAt bk (o0+k*28) (Kc x):=fun j v hj=>g4 k (Kc x) (by rw[List.getElem?_map,hx];rfl) j v hj;have HOX:=O (fun V (hV:Fr aX U V)=>HOP.o V hV x jc);obtain⟨ev,o,hs⟩:=x;have Ci:=HOX.o wr hF;obtain⟨ah,ch,hh⟩:=Ci.own.form;rw[aj]at hh;have rA:hs.length<100000:=Ci.fit.aF.2.1
    have SK:=O (show(es.take (k+1)).map (·.1)=(es.take k).map (·.1)++[ev]by rw[cD,hx];simp);obtain⟨y,hy⟩:∃y,y=Kc (ev,(o,hs)):=⟨_,rfl⟩;rw[<-hy]at hr;have hy':y=Rz ev.tab o ah hs.length ch ev.fP ev.mr ev.fin:=hy.trans (GX hh ev.op ev.fP ev.mr ev.fin);have HY:=O hy';have HYL:=O (show y.length=28 by rw[hy];rfl)
    have HY1:=O (show∀u∈y,u.oneCell'=true by rw[hy,show Kc (ev,(o,hs))=Rz ev.tab o ah hs.length ch ev.fP ev.mr ev.fin from GX hh ev.op ev.fP ev.mr ev.fin];exact GY _ _ _ _ _ _ _ _);have HR:=O hr;have HHH:=O hh;have Gm:=O cQ;have an6:=O Bn;have HF:=O hF;have Tk:=O kx;obtain⟨N,hN⟩:∃N,N=wr.heap.size:=⟨_,rfl⟩;have hUN:U.heap.size<=N:=by have:=hF.size;omega
    have N_:=O (show(wr.alloc (.cells Dv 88)).heap[N]?=some (.cells Dv 88 (0,0))from by rw[hN];exact aC _ _);have HN:=O hN;have hke:k<es.length:=fE;clear dT hr hx hy hy' hh Ci cQ Bn hF kx hN g4;go_wp2_with (first
     |((with_reducible refine lH ⟨some 20,_,_,_,_,_⟩ ?_)
       refine bu rfl 88 (.tmp 19) rfl bk (o0+k*28) rfl y _ HR.o underlying88 rfl (by rw[HYL.o];exact G') ?_
       refine uI rfl 88 rfl (some 5) rfl Dv Vs N HN.o.symm ?_
       refine aI rfl 88 (.tmp 5) (.tmp 20) rfl N y.toArray rfl rfl 88 Dv N_.o (by rw[bd,HYL.o];exact G') (by have e:y.toArray.size=y.length:=rfl;rw[e,HYL.o];rfl) (Y1 HY1.o) ?_
       have hFW:Fr aX U ((wr.alloc (.cells Dv 88)).setRow N y.toArray):=jG (HF.o.alloc _) hUN _
       have hFR:Fr aX wr ((wr.alloc (.cells Dv 88)).setRow N y.toArray):=jG ((ae aX wr).alloc _) (by rw[HN.o];exact az _) _
       have kW:((wr.alloc (.cells Dv 88)).setRow N y.toArray).heap[N]?=some (.cells y.toArray 88 (0,0)):=nS N_.o
       generalize (wr.alloc (.cells Dv 88)).setRow N y.toArray=W1 at *
       have z12:W1.cell? ⟨N,12,none⟩=some (.slice ah hs.length ch):=by
         simp only[World.cell?,kW,HY.o]
         rfl
       have Hk:=O (show ot W1 (.slice ah hs.length ch) hs from by
         have q:=(HOX.o W1 hFW).fit.ef
         rw[HHH.o]at q
         exact q)
       have ZO:U.heap.size<=W1.heap.size:=hFW.size)
     |(at_builtin
       refine zl rfl _ _ rfl U.heap.size _ [] rfl (dp _ _ _ _) _ (hs.map gT.cells) rfl Hk.o bH ZO ?_
       intro v9 w9 uE YL
       rw[List.nil_append]at uE
       obtain⟨a9,c9,hv9⟩:=uE.form
       rw[aj]at hv9
       subst hv9
       have Rx:Fr aX W1 w9:=fg (ae _ _) YL (fun k hk=>by cases hk)
       have k9:=Rx.keep kW id
       have z9:w9.cell? ⟨N,12,none⟩=some (.slice ah hs.length ch):=nI z12 Rx id
       have z9f:w9.frozen? ⟨N,12,none⟩=false:=by simp[World.frozen?,k9])
     |((with_reducible refine lH ⟨some 30,_,_,_,_,_⟩ ?_)
       obtain⟨y2,W3,Yc,hW3,kW2,Ry,adu,aaE,aaF,fo⟩:=Y2 a9 c9 kP HY.o k9 (hFR.trans Rx) HN.o Gm.o
       have HY2:=O Yc
       have k9':=k9
       clear Yc z12 z9 z9f k9
       rw[<-hW3]
       refine aJ rfl 88 (.tmp 5) rfl N rfl _ y2.toArray (0,0) _ kW2 underlying88 rfl (by rw[bd,adu];exact G') ?_
       refine Ec rfl 54 88 1 _ rfl (some 31) rfl y2.toArray i0 (.agg Dv) [(0,.agg y2.toArray)] (by simp only[eM,cA,du];rfl) underlying54 rL pA (by rw[kP];decide) (by rw[kP];decide) aaF W3.heap.size rfl ?_
       have hUW:U.heap.size<=W3.heap.size:=aH ZO (aH Rx.size Ry.size)
       clear aaF)
     |(at_builtin
       refine nA rfl _ _ 54 88 rfl 28 328 (.agg Dv) underlying54 GZ rfl ag ag U.heap.size (.slice al fs.length cl) (fs.map Kc) rfl (fo.alloc _) W3.heap.size 1 y2 rfl adu aaE (fun i u hi=>by rw[World.cell?_alloc_mark];simpa using hi) (by rw[aj];have q:=ar List.length Tk.o;rw[aj,aj,aQ]at q;omega) bH ?_
       intro v' w4 eV Ba)
     |fail)
    have Rm:Fr (own (.slice al fs.length cl)) W3 w4:=fg ((ae (own (.slice al fs.length cl)) W3).alloc _) Ba (fun k hk _=>hk);have WT:ka U.heap.size w9 ({o with aF:={o.aF with ef:=.slice a9 hs.length c9}},hs) ev.op:=by
     have q:=HOX.o w9 (hFW.trans Rx);exact⟨{q.fit with ef:=uE.at},q.is,uE⟩
    have key:∀ {x:jI×List gT} {p:jx},ka U.heap.size w9 x p->ka U.heap.size w4 x p:=fun q=>by
     have q3:=q.one (k9') ag Ry;exact q3.rows (q3.own.fr Rm fun b hb Qt=>by
      obtain⟨c',PS⟩:=fo.AE Qt;exact q3.own.not PS ag hb)
    have aaG:Vr U es v' (.int .i64 ((k+1:Nat):Int)) w4:=by
     refine⟨k+1,ab,rfl,?_,fs++[(ev,({o with aF:={o.aF with ef:=.slice a9 hs.length c9}},hs))],?_,?_,fun x hx=>?_⟩
     ·refine((hFW.trans Rx).step Ry (fun k hk e=>?_)).step Rm (fun k hk e=>?_)
      ·have e':k=N:=e;omega
      ·have:=fo.block k e;omega
     ·rw[bI,Tk.o,SK.o];rfl
     ·rw[bI,cA,du,show Kc (ev,({o with aF:={o.aF with ef:=.slice a9 hs.length c9}},hs))=Rz ev.tab o a9 hs.length c9 ev.fP ev.mr ev.fin from GX (o:={o with aF:={o.aF with ef:=.slice a9 hs.length c9}}) rfl ev.op ev.fP ev.mr ev.fin, <-HY2.o];exact eV
     ·rcases bO.1 hx with hx|hx
      ·exact key ((an6.o x hx).kept (kK (hFR.trans Rx)))
      ·rcases dh.1 hx with rfl
       exact key WT
    have an7:=O aaG;clear aaG key WT Rm eV Ba fo Ry kW2 aaE adu hW3;go_wp2;go_roundw
    case rel =>
     obtain⟨k',r1,r2,r3⟩:=an7.o;exact⟨k',r1,r2.trans bB,r3⟩
    case measure=>simp[intOf];omega
  ·have HE:=O (show fs.map (·.1)=t.ic by rw[kx,aG ab,HES.o]);have HO:=O cQ;have HP:=O Bn;have O2:=O hF;clear cQ Bn kx hF;go_wp2;go_ret;exact⟨_,rfl,⟨fs,HE.o,HO.o,HP.o⟩,O2.o⟩
end
