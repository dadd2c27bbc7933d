/- Lemmas for the law's walk. -/
import Derived.Test.YtjndhcngnghpiaaGreatDoorPo16
import Derived.Test.YtjndhcngnghpiaaGreatDoorPo22
set_option maxRecDepth 100000
set_option maxHeartbeats 16000000
set_option linter.unusedSimpArgs false
namespace Go.Proofs.YtjndhcngnghpiaaGreatDoor
open Go.Proofs.Tryz
open Go.RowKit
variable {w w' U:World} {g j:Nat} {l:List Int} {e:Ending} {o:kn}
theorem qj.cell(h:qj w g l)(hj:j<l.length):w.cell? ⟨g,j,none⟩=some (.int .u32 (l.getD j 0)):=by
 unfold qj at h;simp only[World.cell?,h];simp[List.getElem?_append_left,hj,List.getD_eq_getElem?_getD]
theorem qj.zero(h:qj w g l)(hj:l.length<64):w.cell? ⟨g,l.length,none⟩=some (.int .u32 0):=by
 unfold qj at h;have e:((l++List.replicate (64-l.length) 0).map (Value.int IntKind.u32))[l.length]?=some (Value.int IntKind.u32 0):=by
  rw[List.getElem?_map,List.getElem?_append_right (ay _),Nat.sub_self,List.getElem?_replicate];rw[aA ab];rfl
 simp only[World.cell?,h];simpa using e
theorem qj.free(h:qj w g l)(j:Nat):w.frozen? ⟨g,j,none⟩=false:=by
 unfold qj at h;simp[World.frozen?,h]
theorem qj.set(h:qj w g l)(hj:l.length<64)(x:Int):qj (w.setCell ⟨g,l.length,none⟩ (.int .u32 x)) g (l++[x]):=by
 unfold qj at h ⊢;rw[tB h]
 congr 2
 have e:List.replicate (64-l.length) (0:Int)=0 :: List.replicate (64-(l++[x]).length) 0:=by
  rw[aM,show 64-l.length=(64-(l.length+[x].length))+1 from bF,List.replicate_succ]
 rw[e];simp
theorem ag9(a b c d:Int):IntKind.u32.wrap (IntKind.u32.wrap (IntKind.u32.wrap (a+b)+c)+d)=(a+b+c+d)%4294967296:=by
 have e:∀x:Int,IntKind.u32.wrap x=x%4294967296:=fun x=>by simp[IntKind.wrap,IntKind.signed,IntKind.bits]
 rw[e,e,e];omega
theorem DE(x:Int):IntKind.u32.wrap x=x%4294967296:=by simp[IntKind.wrap,IntKind.signed,IntKind.bits]
theorem ag_(a b c d e:Int):IntKind.u32.wrap (IntKind.u32.wrap (IntKind.u32.wrap (IntKind.u32.wrap (a+b)+c)+d)+e)=(a+b+c+d+e)%4294967296:=by
 rw[DE,DE,DE,DE];omega
theorem acI(a0 a1 a2 a3 a4 a5 a6 a7:Int):prog.built 293 [(0,.int .u32 a0),(1,.int .u32 a1),(2,.int .u32 a2),(3,.int .u32 a3),(4,.int .u32 a4),(5,.int .u32 a5),(6,.int .u32 a6),(7,.int .u32 a7)]=some #[.int .u32 a0,.int .u32 a1,.int .u32 a2,.int .u32 a3,.int .u32 a4,.int .u32 a5,.int .u32 a6,.int .u32 a7]:=af
theorem Ey{ops:Array Oper}{rest:List Oper}{o:Oper}{a:Act}{w:World}{Q:Exit->Act->World->Prop}(hg:o.guard=none)(x0 x1 x2 x3 x4 x5 x6 x7:Operand)
  (ho:o.op=.build 293 #[(0,x0),(1,x1),(2,x2),(3,x3),(4,x4),(5,x5),(6,x6),(7,x7)])(d:Option Tmp)(hd:o.dst=d)(v0 v1 v2 v3 v4 v5 v6 v7:Int)
  (h0:a.eval x0=.int .u32 v0)(h1:a.eval x1=.int .u32 v1)(h2:a.eval x2=.int .u32 v2)(h3:a.eval x3=.int .u32 v3)(h4:a.eval x4=.int .u32 v4)(h5:a.eval x5=.int .u32 v5)(h6:a.eval x6=.int .u32 v6)(h7:a.eval x7=.int .u32 v7)
  (h:wpList prog ops Q rest (a.put d (.agg #[.int .u32 v0,.int .u32 v1,.int .u32 v2,.int .u32 v3,.int .u32 v4,.int .u32 v5,.int .u32 v6,.int .u32 v7])) w):wpList prog ops Q (o :: rest) a w:=by
 refine wpList_buildTo hg 293 _ ho d hd _ ?_ h;simp only[eA,cz,cY,h0,h1,h2,h3,h4,h5,h6,h7];exact acI _ _ _ _ _ _ _ _
theorem vV{k:Nat}(h:k≠g)(cs:bS):(w.setRow g cs).heap[k]?=w.heap[k]?:=by
 simp[World.setRow,Array.getElem?_modify,kH h]
theorem UF{a:World}(h:Fr aW a w)(hg:a.heap.size<=g)(cs:bS):Fr aW a (w.setRow g cs) :=
 ⟨h.os,h.tape,h.output,by show a.heap.size<=(w.setRow g cs).heap.size;rw[World.setRow];simp only[Array.size_modify];exact h.size,fun k hk hn=>(vV ab cs).trans (h.block k hk hn)⟩
theorem acJ(v0 v1 v2 v3 v4 v5 v6 v7:Int):(#[.int .u32 v0,.int .u32 v1,.int .u32 v2,.int .u32 v3,.int .u32 v4,.int .u32 v5,.int .u32 v6,.int .u32 v7]:bS).all (·.oneCell')=true:=bX
def uu(w:World)(g:Nat)(l:List Int):Prop:=w.heap[g]?=some (.cells (l.map (Value.int .u32)).toArray 293 (0,0))
theorem uu.cell(h:uu w g l)(hj:j<l.length):w.cell? ⟨g,j,none⟩=some (.int .u32 (l.getD j 0)):=by
 unfold uu at h;simp only[World.cell?,h];simp[hj,List.getD_eq_getElem?_getD]
theorem uu.free(h:uu w g l)(j:Nat):w.frozen? ⟨g,j,none⟩=false:=by
 unfold uu at h;simp[World.frozen?,h]
theorem uu.set(h:uu w g l)(j:Nat)(x:Int):uu (w.setCell ⟨g,j,none⟩ (.int .u32 x)) g (l.set j x):=by
 unfold uu at h ⊢;rw[tB h];simp[List.map_set]
def Hb(a b:List Int):Nat->List Int
 |0=>a
 |k+1=>(Hb a b k).set k ((a.getD k 0+b.getD k 0)%4294967296)
theorem Kp(a b:List Int):∀k,(Hb a b k).length=a.length
 |0=>rfl
 |k+1=>by rw[Hb,dW,Kp a b k]
theorem Kq(a b:List Int):∀k j,k<=j->(Hb a b k).getD j 0=a.getD j 0
 |0,_,_=>rfl
 |k+1,j,h=>by
  rw[Hb,List.getD_eq_getElem?_getD,List.getElem?_set,ar ab, <-List.getD_eq_getElem?_getD,Kq a b k j ab]
theorem Yz(T:aH):∀k,∀x∈(Ag T k).list,0<=x/\x<4294967296
 |0=>by
  intro x hx;simp only[Ag,Sh.list,sh0,bu,cg,dS]at hx;rcases hx with rfl|rfl|rfl|rfl|rfl|rfl|rfl|rfl<;>decide
 |k+1=>by
  intro x hx;simp only[Ag,yS,Ox,Sh.list,bu,cg,dS]at hx;rcases hx with rfl|rfl|rfl|rfl|rfl|rfl|rfl|rfl<;>exact Af _
def amv(H V:Sh)(g g1:Nat)(w:World)(i:Value)(wr:World):Prop :=
 ∃k:Nat,k<=8/\i=.int .i64 k/\uu wr g (Hb H.list V.list k)/\uu wr g1 V.list/\Fr aW w wr
def amw(tr:Nat->Sh)(ws:List Int)(H:Sh)(g g1 gw:Nat)(w:World)(i:Value)(wr:World):Prop :=
 ∃k:Nat,k<=64/\i=.int .i64 k/\uT wr g (tr k)/\uT wr g1 H/\qj wr gw ws/\Fr aW w wr
theorem uT.cells{h:Sh}(hm:uT w g h):w.cell? ⟨g,0,none⟩=some (.int .u32 h.v0)/\w.cell? ⟨g,1,none⟩=some (.int .u32 h.v1)/\w.cell? ⟨g,2,none⟩=some (.int .u32 h.v2)/\w.cell? ⟨g,3,none⟩=some (.int .u32 h.v3) /\
  w.cell? ⟨g,4,none⟩=some (.int .u32 h.v4)/\w.cell? ⟨g,5,none⟩=some (.int .u32 h.v5)/\w.cell? ⟨g,6,none⟩=some (.int .u32 h.v6)/\w.cell? ⟨g,7,none⟩=some (.int .u32 h.v7):=by
 unfold uT at hm;simp[World.cell?,hm]
def ag'(X:aH)(g:Nat)(w:World)(i:Value)(wr:World):Prop:=∃k:Nat,k<=64/\i=.int .i64 k/\qj wr g (Wc X k)/\Fr aW w wr
set_option pp.deepTerms true in
set_option pp.maxSteps 1000000 in
theorem MY(s:ai)(w:World)(hs:s.size<4398046511104)(ht:t_ w) :
  aC 207 #[.string s] w fun e w'=>e=.returned (.string ⟨(JE s.data.toList).toArray⟩)/\Fr aW w w':=by
 have c0:=ht.b.2 0 _ rfl;have c1:=ht.b.2 1 _ rfl;have c2:=ht.b.2 2 _ rfl;have c3:=ht.b.2 3 _ rfl;have c4:=ht.b.2 4 _ rfl;have c5:=ht.b.2 5 _ rfl;have c6:=ht.b.2 6 _ rfl;have c7:=ht.b.2 7 _ rfl
 have iv:Fr aW w (w.alloc (.cells #[.int .u32 1779033703,.int .u32 3144134277,.int .u32 1013904242,.int .u32 2773480762,.int .u32 1359893119,.int .u32 2600822924,.int .u32 528734635,.int .u32 1541459225] 293)):=(ae aW w).alloc _
 have W_:uT (w.alloc (.cells #[.int .u32 1779033703,.int .u32 3144134277,.int .u32 1013904242,.int .u32 2773480762,.int .u32 1359893119,.int .u32 2600822924,.int .u32 528734635,.int .u32 1541459225] 293)) w.heap.size sh0:=aB _ _;have HM0:=O W_;clear W_;go_enter func207,ntmps207;go_wp2_with fail
 clear c0 c1 c2 c3 c4 c5 c6 c7;refine(Ot s false _ ab).mono ?_;rintro e w1⟨rfl,dn⟩;obtain⟨T,hT⟩:∃T,T=(⟨(uR false s.data.toList).toArray⟩:ai):=⟨_,rfl⟩;rw[<-hT];have ZZ:T.data.toList=uR false s.data.toList:=by rw[hT]
 have hTs:T.size=(uR false s.data.toList).length:=by rw[<-ZZ];simp
 obtain⟨abE,Ta⟩:=JC false s.data.toList;rw[<-hTs]at abE Ta;have Tb:s.data.toList.length=s.size:=aQ;rw[Tb]at Ta;have CU:=O (show JE s.data.toList=oA false (Ag T.data.toList (T.size/64)).list by unfold JE;rw[ZZ,hTs]);have HM1:=O (show uT w1 w.heap.size sh0 from dn.keep HM0.o id);have lB:=O (iv.trans dn);clear hT ZZ hTs HM0 iv dn Tb;go_wp2
 go_loopw[4] (afH T w.heap.size w) (fun t _=>match t with| .string x=>x.size|_=>0)
 case atStart=>exact⟨0,ab,by rw[Nat.mul_zero];congr 1;apply Go.WideShapes.bytes_inj;rw[kj];rfl,HM1.o,lB.o⟩
 case round =>
  obtain⟨n,hn,rfl,hm,cN⟩:=hrel;generalize wr=wo at *
  by_cases hne:64*n<T.size
  ·have Tc:64<=(T.extract (64*n) T.size).size:=by rw[jm];omega
   have alb:(T.extract (64*n) T.size).size<17592186044416:=by rw[jm];omega
   have pN:=O (Ov T (64*n) 64);have hXl:=O (kj T (64*n));generalize T.extract (64*n) T.size=X at *
   have HM:=O hm;have pI:=O (show Ag T.data.toList (n+1)=yS X.data.toList (Ag T.data.toList n)by rw[hXl.o];rfl);generalize Ag T.data.toList n=H at *
   clear hm;have hx:X.toList.isEmpty=false:=by
    rw[aN];cases hq:X.data.toList with
    |nil=>rw[gN.1 hq]at Tc;omega
    |cons a l=>rfl
   have SB:¬X.toList=[]:=by rw[aN];intro h;rw[gN.1 h]at Tc;omega
   go_wp2;go_loopw[23] (ag' X.data.toList wo.heap.size wo) (fun i _=>64-(intOf i).toNat)
   case atStart=>exact⟨0,ab,rfl,by unfold qj;rw[aB];kernel_rfl,(ae _ _).alloc _⟩
   case round =>
    obtain⟨k,hk,rfl,zQ,ki⟩:=hrel;have hlen:=O (Ow X.data.toList k);have Ia:=O (show Wc X.data.toList (k+1)=Fg X.data.toList (Wc X.data.toList k) k from rfl);have H64:=O (show k=64->Wc X.data.toList k=Wc X.data.toList 64 from fun h=>by rw[h]);generalize Wc X.data.toList k=l at *
    by_cases Jv:k<64
    ·have qp:(k:Int)<64:=ab;have hz:=zQ.zero (by rw[hlen.o];exact Jv);have hf:=zQ.free k;rw[hlen.o]at hz;have qz:=O (zQ.set (by rw[hlen.o];exact Jv) (Ff X.data.toList l k));by_cases uS:k<16
     ·have aha:(k:Int)<16:=ab;obtain⟨wv,El⟩:∃wv,wv=qt false (X.extract (4*k) X.size).data.toList:=⟨_,rfl⟩;have se:=O (fun W=>vI (X.extract (4*k) X.size) false W (by rw[jm];omega) (by rw[jm];omega));rw[<-El]at se;have HN:=O (show Ff X.data.toList l k=wv by unfold Ff;rw[aA uS,El,kj]);clear El;have q2:4*(k:Int)<=(X.size:Int):=ab;go_wp2_with fail
      refine(se.o _).mono ?_;rintro e w5⟨rfl,nq,rfl⟩;have Fi:=O (show qj (wr.drewN nq) wo.heap.size l from zQ);have hz5:(wr.drewN nq).cell? ⟨wo.heap.size,k,none⟩=some (.int .u32 0):=hz;have lC:(wr.drewN nq).frozen? ⟨wo.heap.size,k,none⟩=false:=hf;have ahb:=O (show qj ((wr.drewN nq).setCell ⟨wo.heap.size,k,none⟩ (.int .u32 wv)) wo.heap.size (Fg X.data.toList l k)from by
       have h:=zQ.set (by rw[hlen.o];exact Jv) wv;rw[hlen.o]at h;unfold Fg;rw[HN.o];exact h)
      have xX:=ki.drewN nq;clear hz hf;generalize wr.drewN nq=wd at *
      go_wp2;go_roundw
      case rel=>exact⟨k+1,ab,bf,by rw[Ia.o];exact ahb.o,xX.gI (p:=⟨wo.heap.size,k,none⟩) (ay _) _⟩
      case measure=>simp[intOf];omega
     ·have aha:¬(k:Int)<16:=ab;obtain⟨Wq,e16⟩:∃j:Nat,(k:Int)-16=(j:Int):=⟨k-16,ab⟩;obtain⟨j15,e15⟩:∃j:Nat,(k:Int)-15=(j:Int):=⟨k-15,ab⟩;obtain⟨j7,e7⟩:∃j:Nat,(k:Int)-7=(j:Int):=⟨k-7,ab⟩;obtain⟨j2,e2⟩:∃j:Nat,(k:Int)-2=(j:Int):=⟨k-2,ab⟩;have x16:=zQ.cell (j:=Wq) (by rw[hlen.o];omega);have x15:=zQ.cell (j:=j15) (by rw[hlen.o];omega);have x7:=zQ.cell (j:=j7) (by rw[hlen.o];omega)
      have x2:=zQ.cell (j:=j2) (by rw[hlen.o];omega);have HN:=O (show Ff X.data.toList l k=(l.getD Wq 0+l.getD j7 0+abI (l.getD j15 0)+abJ (l.getD j2 0))%4294967296 by
       unfold Ff;rw[ar uS,show k-16=Wq from ab,show k-15=j15 from ab,show k-7=j7 from ab,show k-2=j2 from ab])
      generalize l.getD Wq 0=v16 at *
      generalize l.getD j15 0=v15 at *
      generalize l.getD j7 0=v7 at *
      generalize l.getD j2 0=v2 at *
      have w16:IntKind.i64.wrap ((k:Int)-16)=(Wq:Int):=by rw[<-e16];exact IntWalk.i64_in _ ab
      have w15:IntKind.i64.wrap ((k:Int)-15)=(j15:Int):=by rw[<-e15];exact IntWalk.i64_in _ ab
      have w7:IntKind.i64.wrap ((k:Int)-7)=(j7:Int):=by rw[<-e7];exact IntWalk.i64_in _ ab
      have w2:IntKind.i64.wrap ((k:Int)-2)=(j2:Int):=by rw[<-e2];exact IntWalk.i64_in _ ab
      have b16:(Wq:Int)<64:=ab;have b15:(j15:Int)<64:=ab;have b7:(j7:Int)<64:=ab;have b2:(j2:Int)<64:=ab;have n16:Wq<64:=ab;have n15:j15<64:=ab;have n7:j7<64:=ab;have n2:j2<64:=ab;go_wp2;go_quiet (fail);have X16:(wr.drewN nq).cell? ⟨wo.heap.size,Wq,none⟩=some (.int .u32 v16):=x16;have X7:(wr.drewN nq).cell? ⟨wo.heap.size,j7,none⟩=some (.int .u32 v7):=x7
      have hz5:(wr.drewN nq).cell? ⟨wo.heap.size,k,none⟩=some (.int .u32 0):=hz;have lC:(wr.drewN nq).frozen? ⟨wo.heap.size,k,none⟩=false:=hf;have Fi:=O (show qj (wr.drewN nq) wo.heap.size l from zQ);have xX:=ki.drewN nq;clear x16 x7 hz hf zQ qz ki;generalize wr.drewN nq=wd at *
      go_wp2_with fail
      have y16:IntKind.i64.wrap (Wq:Int)=(Wq:Int):=IntWalk.i64_in _ ab;have y7:IntKind.i64.wrap (j7:Int)=(j7:Int):=IntWalk.i64_in _ ab;clear w16 w15 w7 w2;refine wp_region_still_tail 29 af af ?_;simp only[List.take_succ_cons,List.take_zero,List.drop_succ_cons,eC]
      iterate 11 still_step
      still_call (ald v15 _)
      iterate 1 still_step
      still_call (afz v15 _)
      iterate 6 still_step
      still_call (afA v2 _)
      iterate 1 still_step
      still_call (afB v2 _)
      iterate 6 still_step
      refine wpStill_nil ?_;change wpList _ _ _ _ _ wd.drew;have HS:=O (show∀x,qj (wd.drew.setCell ⟨wo.heap.size,k,none⟩ (.int .u32 x)) wo.heap.size (l++[x])from fun x=>by
       have h:=(show qj wd.drew wo.heap.size l from Fi.o).set (by rw[hlen.o];exact Jv) x;rw[hlen.o]at h;exact h)
      have hz6:wd.drew.cell? ⟨wo.heap.size,k,none⟩=some (.int .u32 0):=hz5;have nw:wd.drew.frozen? ⟨wo.heap.size,k,none⟩=false:=lC;have YA:Fr aW wo wd.drew:=xX.drew;clear hz5 lC X16 X7 y16 y7 e16 e15 e7 e2;generalize wd.drew=we at *
      go_wp2_with fail
      go_wp2;go_roundw
      case rel=>exact⟨k+1,ab,bf,by rw[Ia.o];unfold Fg;rw[HN.o];unfold abI abJ JD;rw[<-ag9];exact HS.o _,YA.gI (p:=⟨wo.heap.size,k,none⟩) (ay _) _⟩
      case measure=>simp[intOf];omega
    ·have Td:k=64:=ab;rw[show((k:Nat):Int)=64 from ab];subst Td;have HWS:=O (H64.o rfl);have HW:=O zQ;clear H64;have hm3:uT wr w.heap.size H:=ki.keep HM.o id;obtain⟨c0,c1,c2,c3,c4,c5,c6,c7⟩:=hm3.cells;have RH:=O hm3;obtain⟨gv,hgv⟩:∃gv,gv=wr.heap.size:=⟨_,rfl⟩;have asK:w.heap.size<gv:=by rw[hgv];exact bg hm3
     have asL:wo.heap.size<gv:=by rw[hgv];exact bg zQ
     have asM:w.heap.size<wo.heap.size:=bg HM.o;clear hm3 zQ;obtain⟨tr,htr⟩:∃tr,tr=yR l H:=⟨_,rfl⟩;have Ck:=O (show∀k,tr (k+1)=Tg (tr k) (shP l k (tr k)) (shQ (tr k))from fun k=>by rw[htr];rfl);have MZ:=O (show tr 0=H by rw[htr];rfl);have HSB:=O (show yS X.data.toList H=Ox H (tr 64)by unfold yS;rw[htr,HWS.o]);clear htr;go_wp2;clear c0 c1 c2 c3 c4 c5 c6 c7
     have SN:Fr aW wr (wr.alloc (.cells #[.int .u32 H.v0,.int .u32 H.v1,.int .u32 H.v2,.int .u32 H.v3,.int .u32 H.v4,.int .u32 H.v5,.int .u32 H.v6,.int .u32 H.v7] 293)):=(ae aW wr).alloc _;have D':=cN.trans (ki.trans SN);rw[<-hgv];have HG:=O hgv;clear hgv;go_loopw[74] (amw tr l H gv w.heap.size wo.heap.size w) (fun i _=>64-(intOf i).toNat)
     case atStart=>exact⟨0,ab,rfl,by rw[MZ.o,HG.o];exact aB _ _,SN.keep RH.o id,SN.keep HW.o id,D'⟩
     case round =>
      clear SN D' RH HW ki;obtain⟨k,hk,rfl,hv,hh,hww,qi⟩:=hrel;generalize wr=wi at *
      by_cases Jv:k<64
      ·have qp:(k:Int)<64:=ab;obtain⟨z,hz⟩:∃z,CW[k]?=some z:=⟨_,List.getElem?_eq_getElem (by show k<64;omega)⟩;have aap:wi.cell? ⟨2,k,none⟩=some (.int .u32 z):=(ht.fr qi).r.2 k z hz;have ZW:=O (show CW.getD k 0=z by rw[List.getD_eq_getElem?_getD,hz];rfl);clear hz;have hwk:=hww.cell (j:=k) (by rw[hlen.o];exact Jv);obtain⟨x,hx⟩:∃x,x=l.getD k 0:=⟨_,rfl⟩;rw[<-hx]at hwk;have HS1:=O (Ck.o k)
       generalize tr k=V at *
       have HP:=O (show shP l k V=(V.v7+JD (lN V.v4 26) (lN V.v4 21) (lN V.v4 7)+bits .xor .u32 (bits .and .u32 V.v4 V.v5) (bits .and .u32 (L' V.v4) V.v6)+z+x)%4294967296 by unfold shP;rw[ZW.o,hx]);obtain⟨c0,c1,c2,c3,c4,c5,c6,c7⟩:=hv.cells;have HV:=O hv;have HH:=O hh;have wV:=O hww;clear hv hh hww hx;go_wp2;go_quiet (fail);go_wp2_with fail
       have HV2:=O (show uT (wi.drewN nq) gv V from HV.o);have HH2:=O (show uT (wi.drewN nq) w.heap.size H from HH.o);have ahc:=O (show qj (wi.drewN nq) wo.heap.size l from wV.o);have acO:(wi.drewN nq).cell? ⟨2,k,none⟩=some (.int .u32 z):=aap;have amC:(wi.drewN nq).cell? ⟨wo.heap.size,k,none⟩=some (.int .u32 x):=hwk;have od:=qi.drewN nq;clear HV HH wV aap hwk qi c0 c1 c2 c3 c4 c5 c6 c7
       generalize wi.drewN nq=wd at *
       obtain⟨c0,c1,c2,c3,c4,c5,c6,c7⟩:=HV2.o.cells;refine wp_region_still_tail 30 af af ?_;simp only[List.take_succ_cons,List.take_zero,List.drop_succ_cons,eC]
       iterate 3 still_step
       still_call (ale V.v4 _)
       iterate 1 still_step
       still_call (afC V.v4 _)
       iterate 2 still_step
       still_call (afD V.v4 _)
       iterate 21 still_step
       refine wpStill_nil ?_;rw[show(if IntKind.u32.signed=true then(-1:Int)else IntKind.u32.max)=IntKind.u32.max from rfl];rw[show bits .xor .u32 IntKind.u32.max V.v4=L' V.v4 from rfl];generalize hy0:L' V.v4=y0;generalize hy2:bits .xor .u32 (bits .and .u32 V.v4 V.v5) (bits .and .u32 y0 V.v6)=y2;generalize bits .and .u32 y0 V.v6=y3
       generalize D9:bits .xor .u32 (bits .xor .u32 (lN V.v4 26) (lN V.v4 21)) (lN V.v4 7)=y1;generalize Bp:IntKind.u32.wrap (V.v7+y1)=s1;generalize Ci:IntKind.u32.wrap (s1+y2)=s2;generalize Sp:IntKind.u32.wrap (s2+z)=s3;generalize Z_:IntKind.u32.wrap (s3+x)=p;have HP2:=O (show shP l k V=p by rw[HP.o, <-Z_, <-Sp, <-Ci, <-Bp, <-D9, <-hy2, <-hy0,ag_];rfl);clear Z_ Sp Ci Bp D9 hy2 hy0 HP acO amC
       change wpList _ _ _ _ _ wd.drew;have HV3:=O (show uT (wd.drew) gv V from HV2.o);have HH3:=O (show uT (wd.drew) w.heap.size H from HH2.o);have ahf:=O (show qj (wd.drew) wo.heap.size l from ahc.o);have xX:=od.drew;clear HV2 HH2 ahc od c0 c1 c2 c3 c4 c5 c6 c7;generalize wd.drew=we at *
       obtain⟨c0,c1,c2,c3,c4,c5,c6,c7⟩:=HV3.o.cells
       iterate 7 go_step
       refine wp_region_still_tail 24 af af ?_;simp only[List.take_succ_cons,List.take_zero,List.drop_succ_cons,eC]
       iterate 1 still_step
       still_call (alf V.v0 _)
       iterate 1 still_step
       still_call (afE V.v0 _)
       iterate 2 still_step
       still_call (afF V.v0 _)
       iterate 17 still_step
       refine wpStill_nil ?_;generalize hy4:bits .xor .u32 (bits .xor .u32 (bits .and .u32 V.v0 V.v1) (bits .and .u32 V.v0 V.v2)) (bits .and .u32 V.v1 V.v2)=y4;generalize hy5:bits .xor .u32 (bits .xor .u32 (lN V.v0 30) (lN V.v0 19)) (lN V.v0 10)=y5;generalize hs5:IntKind.u32.wrap (y5+y4)=q;have YB:=O (show shQ V=q by rw[<-hs5, <-hy5, <-hy4];unfold shQ JD;rw[DE]);clear hs5 hy5 hy4
       change wpList _ _ _ _ _ we.drew;have HV4:=O (show uT (we.drew) gv V from HV3.o);have HH4:=O (show uT (we.drew) w.heap.size H from HH3.o);have amD:=O (show qj (we.drew) wo.heap.size l from ahf.o);have YA:=xX.drew;clear HV3 HH3 ahf xX c0 c1 c2 c3 c4 c5 c6 c7;generalize we.drew=wf at *
       obtain⟨c0,c1,c2,c3,c4,c5,c6,c7⟩:=HV4.o.cells;have hb:wf.heap[gv]?=some (.cells #[.int .u32 V.v0,.int .u32 V.v1,.int .u32 V.v2,.int .u32 V.v3,.int .u32 V.v4,.int .u32 V.v5,.int .u32 V.v6,.int .u32 V.v7] 293 (0,0)):=HV4.o;have HB:=O hb;clear hb
       go_wp2_with (first|((with_reducible refine dv 154 ?_);refine Ey rfl (.tmp 137) (.tmp 139) (.tmp 141) (.tmp 143) (.tmp 147) (.tmp 149) (.tmp 151) (.tmp 153) rfl (some 154) rfl ((p+q)%4294967296) V.v0 V.v1 V.v2 ((V.v3+p)%4294967296) V.v4 V.v5 V.v6 rfl rfl rfl rfl rfl rfl rfl rfl ?_)|((with_reducible refine kA ⟨none,_,_,_,_,_⟩ ?_);refine wpList_store_rowTo rfl 293 (.tmp 9) (.tmp 154) rfl rfl gv #[.int .u32 ((p+q)%4294967296),.int .u32 V.v0,.int .u32 V.v1,.int .u32 V.v2,.int .u32 ((V.v3+p)%4294967296),.int .u32 V.v4,.int .u32 V.v5,.int .u32 V.v6] rfl rfl _ _ HB.o af rfl (acJ _ _ _ _ _ _ _ _) ?_;have lT:=O (show uT (wf.setRow gv #[.int .u32 ((p+q)%4294967296),.int .u32 V.v0,.int .u32 V.v1,.int .u32 V.v2,.int .u32 ((V.v3+p)%4294967296),.int .u32 V.v4,.int .u32 V.v5,.int .u32 V.v6]) gv (Tg V p q)from aY _ _ _ _ _ _ HB.o);have HH5:=O (show uT (wf.setRow gv #[.int .u32 ((p+q)%4294967296),.int .u32 V.v0,.int .u32 V.v1,.int .u32 V.v2,.int .u32 ((V.v3+p)%4294967296),.int .u32 V.v4,.int .u32 V.v5,.int .u32 V.v6]) w.heap.size H from(vV ab _).trans HH4.o);have amE:=O (show qj (wf.setRow gv #[.int .u32 ((p+q)%4294967296),.int .u32 V.v0,.int .u32 V.v1,.int .u32 V.v2,.int .u32 ((V.v3+p)%4294967296),.int .u32 V.v4,.int .u32 V.v5,.int .u32 V.v6]) wo.heap.size l from(vV ab _).trans amD.o);have V7:=O (show Fr aW w (wf.setRow gv #[.int .u32 ((p+q)%4294967296),.int .u32 V.v0,.int .u32 V.v1,.int .u32 V.v2,.int .u32 ((V.v3+p)%4294967296),.int .u32 V.v4,.int .u32 V.v5,.int .u32 V.v6])from UF YA ab _);clear YA c0 c1 c2 c3 c4 c5 c6 c7;generalize wf.setRow gv #[.int .u32 ((p+q)%4294967296),.int .u32 V.v0,.int .u32 V.v1,.int .u32 V.v2,.int .u32 ((V.v3+p)%4294967296),.int .u32 V.v4,.int .u32 V.v5,.int .u32 V.v6]=wg at *))
       go_wp2;go_roundw
       case rel=>exact⟨k+1,ab,bf,by rw[HS1.o,HP2.o,YB.o];exact lT.o,HH5.o,amE.o,V7.o⟩
       case measure=>simp[intOf];omega
      ·have Td:k=64:=ab;rw[show((k:Nat):Int)=64 from ab];subst Td;clear hww;generalize tr 64=V at *
       have hvz:uu wi gv V.list:=hv;have hhz:uu wi w.heap.size (Hb H.list V.list 0):=hh;have HVZ:=O hvz;have HHZ:=O hhz;clear hv hh hvz hhz;go_wp2;go_loopw[156] (amv H V w.heap.size gv w) (fun i _=>8-(intOf i).toNat)
       case atStart=>exact⟨0,ab,rfl,HHZ.o,HVZ.o,qi⟩
       case round =>
        clear HVZ HHZ qi;obtain⟨k,hk,rfl,hz,hvz,od⟩:=hrel;generalize wr=wx at *
        have hL1:H.list.length=8:=rfl;have hL2:V.list.length=8:=rfl;by_cases Jv:k<8
        ·have qp:(k:Int)<8:=ab;have c0:=hz.cell (j:=k) (by rw[Kp];omega);rw[Kq _ _ k k (ay _)]at c0;have c1:=hvz.cell (j:=k) ab;have f0:=hz.free k;have lT:=O (show uu (wx.drew.setCell ⟨w.heap.size,k,none⟩ (.int .u32 ((H.list.getD k 0+V.list.getD k 0)%4294967296))) w.heap.size (Hb H.list V.list (k+1))from(show uu wx.drew w.heap.size (Hb H.list V.list k)from hz).set k _)
         have HVZ:=O (show uu (wx.drew.setCell ⟨w.heap.size,k,none⟩ (.int .u32 ((H.list.getD k 0+V.list.getD k 0)%4294967296))) gv V.list from by
          unfold uu;rw[Below.heap_setCell _ _ _ _ (show gv≠w.heap.size from ab)];exact hvz)
         have uf:=O (od.drew);generalize H.list.getD k 0=x0 at *
         generalize V.list.getD k 0=x1 at *
         clear hz hvz od;go_wp2;refine wp_region_still_tail 8 af af ?_;simp only[List.take_succ_cons,List.take_zero,List.drop_succ_cons,eC]
         iterate 8 still_step
         refine wpStill_nil ?_;change wpList _ _ _ _ _ wx.drew;have c2:wx.drew.cell? ⟨w.heap.size,k,none⟩=some (.int .u32 x0):=c0;have f2:wx.drew.frozen? ⟨w.heap.size,k,none⟩=false:=f0;clear c0 c1 f0;generalize wx.drew=wy at *
         go_wp2_with fail
         go_wp2;go_roundw
         case rel=>exact⟨k+1,ab,bf,by first|exact lT.o|(rw[DE];exact lT.o),by first|exact HVZ.o|(rw[DE];exact HVZ.o),uf.o.gI (p:=⟨w.heap.size,k,none⟩) (ay _) _⟩
         case measure=>simp[intOf];omega
        ·have hk8:k=8:=ab;subst hk8;have XC:uT wx w.heap.size (Ox H V):=hz;have amF:=O XC;have alc:(64:Int)<=(X.size:Int):=ab;clear hz hvz XC;go_wp2;refine⟨⟨n+1,ab,?_,?_,od⟩,?_⟩
         ·rw[pN.o];rfl
         ·rw[pI.o,HSB.o];exact amF.o
         ·show(X.extract 64 X.size).size<X.size;rw[jm];omega
  ·have zU:64*n=T.size:=ab;have he:(T.extract (64*n) T.size)=⟨#[]⟩:=by apply Go.WideShapes.bytes_inj;rw[kj,cL bF]
   rw[he];have Te:=O (show Ag T.data.toList (T.size/64)=Ag T.data.toList n by rw[<-zU];congr 1;omega);have Lt:=Yz T.data.toList n;generalize Ag T.data.toList n=H at *
   have hz:uu wo w.heap.size H.list:=hm;have TX:=O (A' w.heap.size H.list false wo (by show 8<=8;omega) (bg hm) (fun j x hj=>by
    have hl:j<H.list.length:=(List.getElem?_eq_some_iff.1 hj).1;rw[hz.cell hl,List.getD_eq_getElem?_getD,hj];rfl) Lt)
   clear hm Lt hz;go_wp2_with fail
   refine TX.o.mono ?_;rintro e w5⟨rfl,lC⟩;go_wp2;go_ret;exact⟨by rw[CU.o,Te.o];rfl,cN.trans lC⟩
theorem UG(w:World)(hs:t_ w):sO 3 w:=by
 intro v ss W hW hv hn hlen;have hT:=O (hs.fr hW);clear hs;have HJ:=O (JF v ss W hv hn hlen);clear hv;have hz:(⟨(ku ss).toArray⟩:ai).size<4398046511104:=by show(ku ss).toArray.size<_;simp;omega
 have HB:=O (show kl (decide ((3:Int)=3)) ss=⟨(JE (ku ss)).toArray⟩from rfl);generalize ku ss=tx at *
 clear hW;go_enter func160,ntmps160;go_wp2_with fail
 refine HJ.o.mono ?_;rintro e u1⟨rfl,dn⟩;go_wp2_with fail
 refine(MY ⟨tx.toArray⟩ u1 hz (hT.o.fr dn)).mono ?_;rintro e u2⟨rfl,dD⟩;go_wp2;go_ret;exact⟨(aq (fun b=>Ending.returned (.string b)) HB.o).symm,dn.trans dD⟩
theorem UH(fG:Int)(w:World)(ht:tZ w)(hs:t_ w):sO fG w:=by
 by_cases h:fG=3
 ·subst h;exact UG w hs
 ·exact XI fG h w ht
structure wL (w:World):Prop where
 db:oC w 9 .u8 RJ
 md:tZ w
 sh:t_ w
theorem wL.fr(h:wL w)(hf:Fr aW w w'):wL w':=⟨h.db.fr hf,h.md.fr hf,h.sh.fr hf⟩
def ahA(u:Except Nat (aU bE)):Value:=match u with| .ok _=>.nilIface| .error n=>.iface 82 (.int .i64 n)
theorem qJ.one{base:Nat}{b:Nat}{gv wv:Value}{ws:List (bJ bE)}{u:List (aU bE)×Except Nat (aU bE)}(h:qJ base w b gv wv ws u e w') :
  km base w b gv wv u.1 ws w'/\∃X:bS,e=.returned (.tuple #[.agg X,ahA u.2])/\X.size=16/\X.all (·.oneCell')=true/\∀x,u.2=.ok x->∃r:aU Value,X=r.cells.toArray/\r.Reads (cZ base w') x:=by
 obtain⟨h1,h2⟩:=h;refine⟨h1,?_⟩;cases hu:u.2 with
 |error n=>rw[hu]at h2;exact⟨fc,h2,rfl,dp,fun x hx=>by cases hx⟩
 |ok g =>
  rw[hu]at h2;obtain⟨r,e1,e2,e3⟩:=h2;exact⟨r.cells.toArray,e1,rfl,bU e3,fun x hx=>by cases hx;exact⟨r,rfl,e2⟩⟩
theorem DH{X:bS}(h:X.size=16):(prog.info? 133).map (·.size)=some X.size:=by rw[h];kernel_rfl
def AtJ(base:Nat)(w2:World)(B off:Nat)(cs:aX)(v:dm)(p:eB)(x:Except Nat (aU bE))(n:Nat)(X:bS)(W:World):Prop :=
 su base w2 B off cs v p n X 133 W/\∀g,x=.ok g->∃r:aU Value,X=r.cells.toArray/\r.Reads (cZ base W) g
theorem M7{g:aU bE}(h1:g.a.scheme=1)(h:qm g o=none)(hu:g.user.size<=100000)(hp:g.pass.size<=100000) :
  aC 71 #[.agg #[.string g.user,.string g.pass]] U fun e w'=>(∃t v,e=.returned (.tuple #[.string ⟨#[]⟩,.iface t v]))/\Fr aW U w':=by
 refine(Fj g.user g.pass U hu hp).mono ?_;rintro e u⟨hb,hf⟩;refine⟨?_,hf⟩;unfold qm at h;rw[aA h1]at h;unfold mJ at hb;by_cases hc:0<=Lib.indexByte g.user.data.toList 58
 ·rw[aA hc]at hb;exact⟨_,_,hb⟩
 ·rw[ar hc]at hb h;cases hq:(lh g.user&&lh g.pass)
  ·rw[hq]at hb;exact⟨_,_,hb⟩
  ·rw[hq]at h;cases h
theorem M8{g:aU bE}{s:ai}(h1:g.a.scheme=1)(h:qm g o=some s)(hu:g.user.size<=100000)(hp:g.pass.size<=100000) :
  aC 71 #[.agg #[.string g.user,.string g.pass]] U fun e w'=>e=.returned (.tuple #[.string s,.nilIface])/\Fr aW U w':=by
 refine(Fj g.user g.pass U hu hp).mono ?_;rintro e u⟨hb,hf⟩;refine⟨?_,hf⟩;unfold qm at h;rw[aA h1]at h;unfold mJ at hb;by_cases hc:0<=Lib.indexByte g.user.data.toList 58
 ·rw[aA hc]at h;cases h
 ·rw[ar hc]at hb h;cases hq:(lh g.user&&lh g.pass)
  ·rw[hq]at h;cases h
  ·rw[hq]at hb h;cases h;exact hb
section
variable {g : aU bE} {o : kn} {s : ByteArray} {U : World} {dom : Value}
theorem UP(dX:dom.oneCell'=true)(hg:Um g)(hm:(ju o.method).size<=5000)(ht:(nA o.path o.query).size<=5000)(hb:o.body.size<=5000)(hc:o.bI.size<=5000)(hT:wL U) :
  aC 72 #[.agg #[.int .i64 g.a.scheme,.string g.a.aP,.string g.a.bz,.string g.a.cC,.bool g.a.cD,.string g.a.eY,.bool g.a.du,dom],.agg #[.string g.user,.string g.pass],.string (ju o.method),.string (nA o.path o.query),.string o.body,.string o.bI,.int .i64 g.count] U (oL g.a.scheme g.a.cC (o.Ya g) g.count U):=by
 obtain⟨⟨a1,a2,a3,a4⟩,a5,a6⟩:=hg;exact QF g.a.scheme g.a.aP g.a.bz g.a.cC g.a.eY g.user g.pass (ju o.method) (nA o.path o.query) o.body o.bI g.a.cD g.a.du dom g.count U dX ab ab ab a5 a6 hm ht hb hc hT.db (UH _ _ hT.md hT.sh)
theorem UQ(h1:¬g.a.scheme=1)(h:qm g o=none)(hd:oL g.a.scheme g.a.cC (o.Ya g) g.count U e w'):(∃t v,e=.returned (.tuple #[.string ⟨#[]⟩,.iface t v]))/\Fr aW U w':=by
 unfold qm at h;rw[ar h1]at h;obtain⟨hf,hd⟩:=hd;refine⟨?_,hf⟩;rcases hd with ⟨_,hd⟩|⟨hg,_⟩
 ·exact hd
 ·split at h
  ·cases h
  ·rename_i hn;exact absurd hg hn
theorem UR(h1:¬g.a.scheme=1)(h:qm g o=some s)(hd:oL g.a.scheme g.a.cC (o.Ya g) g.count U e w'):e=.returned (.tuple #[.string s,.nilIface])/\Fr aW U w':=by
 unfold qm at h;rw[ar h1]at h;obtain⟨hf,hd⟩:=hd;refine⟨?_,hf⟩;rcases hd with ⟨hg,_⟩|⟨hg,hd⟩
 ·split at h
  ·rename_i hc;exact absurd hc hg
  ·cases h
 ·split at h
  ·cases h;exact hd
  ·rename_i hn;exact absurd hg hn
end
theorem QN(s:ai)(h:s.size<=5000):(ju s).size<=5000:=by
 rcases yC ir s with ⟨h1,_⟩|h1
 ·have:=(show∀x∈ir,x.size<=5000 from ag) _ h1;exact this
 ·show(ni ir s).size<=5000;rw[h1];exact h
theorem QO(p q:ai)(h:p.size<=2000)(h2:q.size<=2000):(nA p q).size<=5000:=by
 unfold nA;split
 ·omega
 ·rw[iQ,iQ,show(ByteArray.mk #[63]).size=1 from rfl];omega
theorem M9(base:Nat)(w:World)(B off:Nat)(cs:aX)(v:dm)(p:eB)(o:jB)(hs:List gU)(h:eO base w v p)(ha:gJ w B cs off v)(o8:base<=B)(hf:gL w o hs)(hk:mY p)(nv:rF p)(a:World)(sP:wL a)(rN:a.heap.size<=base)(sQ:Fr aW a w) :
  aC 42 #[.pointer (some ⟨B,off,none⟩),.agg o.cells.toArray] w (eD base w B cs off v (lu p (o.dP hs))):=by
 have uo:B<w.heap.size:=bg ha.eG;have FP:¬v.jM B:=h.fa ha.eG ag;obtain⟨ah,ch,gq⟩:=hf.gO;obtain⟨w2,ez⟩:∃w2,w2=(w.alloc (.cells o.cells.toArray 33)).alloc (.cells bQ 46):=⟨_,rfl⟩;have dD:Fr aW w w2:=by rw[ez];exact((ae aW w).alloc _).alloc _
 have k1:w2.heap[w.heap.size]?=some (.cells o.cells.toArray 33 (0,0)):=by rw[ez];exact((ae aW _).alloc _).keep (aB _ _) id
 have k2:w2.heap[w.heap.size+1]?=some (.cells bQ 46 (0,0)):=by
  have h:=aB (w.alloc (.cells o.cells.toArray 33)) (.cells bQ 46);rw[bM]at h;rw[ez];exact h
 have wO:w2.heap.size=w.heap.size+2:=by rw[ez];simp
 have US:=O (show∀U,Fr aW w2 U->U.heap[w.heap.size]?=some (.cells o.cells.toArray 33 (0,0))from fun U hU=>hU.keep k1 id);have B_:=O FP;have HH:=O h;have HA:=O ha;have HF:=O hf;have lg:=O gq;have HK:=O hk;have fS:=O dD;have mE:=O k1;have qx:=O k2;have pU:=O (show base<=w.heap.size from ab);have wR:=O o8;have oM:=O uo;have QE:=O ez
 obtain⟨a0,a1,a2,a3,a4,a5,a6,a7,a8,a9,jr,js,a12,jq,jt,i_,jD,jE,jF,jN,a20,a21⟩:=ed k1 gq;rw[ez]at a0 a1 a2 a3 a4 a5 a6 a7 a8 a9 jr js a12 jq jt i_ jD jE jF jN a20 a21;rw[dV gq]at ez a0 a1 a2 a3 a4 a5 a6 a7 a8 a9 jr js a12 jq jt i_ jD jE jF jN a20 a21 ⊢;unfold bQ at ez a0 a1 a2 a3 a4 a5 a6 a7 a8 a9 jr js a12 jq jt i_ jD jE jF jN a20 a21;have oz:=O ez;clear ez gq dD k1 k2 h ha hf FP hk
 obtain⟨x3,xf⟩:∃x3,x3=w2.alloc (.cells #[.int .i64 o.aI.part,.bool o.aI.cQ.aG,.string o.aI.cQ.host,.int .i64 o.aI.cQ.port,.bool o.aI.o.aG,.string o.aI.o.host,.int .i64 o.aI.o.port,.string o.aI.path,.string o.aI.query,.string o.aI.method,.slice ah hs.length ch,.bool o.aI.fF,.string o.aI.body] 29):=⟨_,rfl⟩;have YM:Fr aW w2 x3:=by rw[xf];exact(ae _ _).alloc _
 have XN:x3.heap[w.heap.size+2]?=some (.cells #[.int .i64 o.aI.part,.bool o.aI.cQ.aG,.string o.aI.cQ.host,.int .i64 o.aI.cQ.port,.bool o.aI.o.aG,.string o.aI.o.host,.int .i64 o.aI.o.port,.string o.aI.path,.string o.aI.query,.string o.aI.method,.slice ah hs.length ch,.bool o.aI.fF,.string o.aI.body] 29 (0,0)):=by
  have h:=aB w2 (.cells #[.int .i64 o.aI.part,.bool o.aI.cQ.aG,.string o.aI.cQ.host,.int .i64 o.aI.cQ.port,.bool o.aI.o.aG,.string o.aI.o.host,.int .i64 o.aI.o.port,.string o.aI.path,.string o.aI.query,.string o.aI.method,.slice ah hs.length ch,.bool o.aI.fF,.string o.aI.body] 29);rw[wO]at h;rw[xf];exact h
 have M_:x3.heap.size=w.heap.size+3:=by rw[xf];simp;omega
 have ij:=O (fS.o.trans YM);have HQ3:=O XN;have HX3:=O xf;have H3:=O (HH.o.dt ij.o);have A3:=O (HA.o.dt ij.o);have KO:=O (YM.keep mE.o id);have KR:=O (YM.keep qx.o id);have QP:=O (sQ.trans ij.o);have QQ:=O sP;have HSM:=O nv;have atc:=O M_;have QR:=HK.o.rf;clear xf YM XN sP nv sQ;go_enter func42,ntmps42
 have HC:=O (show∀U,Fr (dh v.b v.gv v.wv) x3 U->(U.cell? ⟨B,off,none⟩=some (.pointer (some ⟨v.b,0,none⟩))/\U.cell? ⟨w.heap.size+2,4,none⟩=some (.bool o.aI.o.aG)/\U.cell? ⟨w.heap.size+2,5,none⟩=some (.string o.aI.o.host)/\U.cell? ⟨w.heap.size+2,6,none⟩=some (.int .i64 o.aI.o.port)/\U.cell? ⟨w.heap.size+2,7,none⟩=some (.string o.aI.path)/\U.cell? ⟨w.heap.size,14,none⟩=some (.bool o.proxy))from fun U hU=>by
  have j1:=A3.o.fr hU (fun hb=>B_.o (Or.inl hb));have j2:=hU.keep HQ3.o (fun hb=>H3.o.fa HQ3.o FJ (Or.inl hb));have j3:=hU.keep KO.o (fun hb=>H3.o.fa KO.o kZ (Or.inl hb));obtain⟨a0,a1,a2,a3,a4,a5,a6,a7,a8,a9,jr,js,a12,jq,jt,i_,jD,jE,jF,jN,a20,a21⟩:=ed j3 lg.o;refine⟨j1.cell0,?_,?_,?_,?_,jt⟩<;>simp[World.cell?,j2])
 have HUS:=O (show∀U,Fr aW x3 U->aC 70 #[.pointer (some ⟨v.b,0,none⟩),.agg #[.bool o.aI.o.aG,.string o.aI.o.host,.int .i64 o.aI.o.port],.bool o.proxy,.string o.aI.path] U (qJ base U v.b v.gv v.wv p.waits (uX p.bW o.aI.o o.proxy o.aI.path))from fun U hU=>XZ base U v.b v.gv v.wv p.bW p.waits o.aI.o o.proxy o.aI.path (H3.o.dt hU).oW ab HK.o.nat)
 obtain⟨us,hus⟩:∃us,us=uX p.bW o.aI.o o.proxy o.aI.path:=⟨_,rfl⟩;rw[<-hus]at HUS;have HUE:=O hus;obtain⟨ev,hev⟩:∃ev,ev=ahA us.2:=⟨_,rfl⟩;have YN:=O hev;have ahD:=O (show base<=x3.heap.size from aE pU.o ij.o.size);have ahE:=O (show B<x3.heap.size from cK oM.o ij.o.size);have rP:=oz.o;clear hus hev wO M_;go_wp2_with fail
 rw[<-rP, <-HX3.o];clear a0 a1 a2 a3 a4 a5 a6 a7 a8 a9 jr js a12 jq jt i_ jD jE jF jN a20 a21 rP;apply UA (P:=AtJ base x3 B off cs v {p with bW:=us.1} us.2)
 ·intro hJ;have HJ:=O hJ;clear hJ
  refine wp_region_held_drew (S:=(fun U=>U.cell? ⟨B,off,none⟩=some (.pointer (some ⟨v.b,0,none⟩))/\U.cell? ⟨w.heap.size+2,4,none⟩=some (.bool o.aI.o.aG)/\U.cell? ⟨w.heap.size+2,5,none⟩=some (.string o.aI.o.host)/\U.cell? ⟨w.heap.size+2,6,none⟩=some (.int .i64 o.aI.o.port)/\U.cell? ⟨w.heap.size+2,7,none⟩=some (.string o.aI.path)/\U.cell? ⟨w.heap.size,14,none⟩=some (.bool o.proxy))) af (HC.o _ (az (ae _ _))) ?_
  intro yl;refine aO 0 12 rfl ?_;refine aO 1 13 rfl ?_;refine aO 2 14 rfl ?_;refine aO 3 15 rfl ?_;refine aO 4 16 rfl ?_;refine aO 5 17 rfl ?_;refine aO 6 18 rfl ?_;refine aO 7 19 rfl ?_;refine aO 8 20 rfl ?_;refine aO 9 21 rfl ?_;refine aO 10 22 rfl ?_;refine aO 11 23 rfl ?_;refine DI 12 16 rfl rfl (fun K hK=>?_) fun K hK=>?_
  ·go_simp;refine(HUS.o _ (az (ae _ _))).mono ?_;rintro e u3 Ku;obtain⟨sN,X,rfl,FQ,Kv,Dx⟩:=qJ.one Ku;rw[<-YN.o];have Na:=O sN;have HX:=O (And.intro FQ (And.intro Kv Dx));have vW:Fr (dh v.b v.gv v.wv) x3 u3:=(az (ae _ _)).trans (by obtain⟨_,_,_,h,_⟩:=sN;exact h);have Az:=O vW;clear Ku sN FQ Kv Dx vW;refine hK.out _ _ (HC.o _ Az.o) ?_;intro wU;clear hK yl K
   try simp only[Act.put,sA,sB,sC]
   refine aO 13 11 rfl ?_;refine aO 14 25 rfl ?_;refine aO 15 26 rfl ?_;refine eK 16 rfl fun K hK=>?_;go_simp;obtain⟨n,hne⟩:∃n,n=u3.heap.size:=⟨_,rfl⟩;obtain⟨w4,qh⟩:∃w4,w4=u3.alloc (.cells fc 133):=⟨_,rfl⟩;have UT:w4.heap[n]?=some (.cells fc 133 (0,0)):=by rw[qh,hne];exact aB _ _
   have kz:Fr (dh v.b v.gv v.wv) x3 w4:=by rw[qh];exact Az.o.alloc _
   have YO:=O UT;have jH:=O kz;have MX:=O qh;have BP:=O hne;rw[<-qh, <-hne];clear qh hne UT kz;refine hK.out _ _ (HC.o _ jH.o) ?_;intro Bj;clear hK wU K
   try simp only[Act.put,sA,sB,sC]
   refine eK 17 rfl fun K hK=>?_;refine jC rfl 133 (.tmp 6) (.tmp 25) rfl n X rfl rfl 133 fc YO.o (DH HX.o.1) HX.o.1.symm HX.o.2.1 ?_;obtain⟨W,hW⟩:∃W,W=w4.setRow n X:=⟨_,rfl⟩;have Bk:Fr (dh v.b v.gv v.wv) x3 W:=by rw[hW];exact iZ jH.o (by rw[BP.o];exact Az.o.size) _
   have hP:=su.after (z:=fc) (cW (az (ae aW x3)) (eP (H3.o.dt (az (ae aW x3))) (A3.o.dt (az (ae aW x3))) B_.o Na.o)) ahD.o ahE.o (t:=133) ag X;rw[<-MX.o, <-BP.o, <-hW]at hP;rw[<-hW];refine hK.out _ _ (HC.o _ Bk) ?_;intro EA;clear hK Bj K
   try simp only[Act.put,sA,sB,sC]
   refine aO 18 7 rfl ?_;clear EA;refine wpAnyH_done af ?_ _;exact HJ.o n X W ⟨hP.1,fun g hg=>by
    obtain⟨r,e1,e2⟩:=HX.o.2.2 g hg;exact⟨r,e1,e2.mono (fun v l h=>hP.2 v l h)⟩⟩
  ·go_simp;obtain⟨n,hne⟩:∃n,n=x3.heap.size:=⟨_,rfl⟩;obtain⟨w4,qh⟩:∃w4,w4=(x3.alloc (.cells fc 133)).drew:=⟨_,rfl⟩;have UT:w4.heap[n]?=some (.cells fc 133 (0,0)):=by rw[qh,hne];exact aB x3 _
   have kz:Fr aW x3 w4:=by rw[qh];exact((ae _ _).alloc _).drew
   have YO:=O UT;have jH:=O kz;have BP:=O (show x3.heap.size<=n from ab);rw[<-qh, <-hne];clear qh hne UT kz;refine hK.out _ _ (HC.o _ (jH.o.mono (fun _ _ h=>absurd h id))) ?_;intro wU;clear hK yl K
   try simp only[Act.put,sA,sB,sC]
   refine eK 12 rfl fun K hK=>?_;go_simp;refine(HUS.o _ jH.o).mono ?_;rintro e u3 Ku;obtain⟨sN,X,rfl,FQ,Kv,Dx⟩:=qJ.one Ku;rw[<-YN.o];have Na:=O sN;have HX:=O (And.intro FQ (And.intro Kv Dx));have vW:Fr (dh v.b v.gv v.wv) x3 u3:=(jH.o.mono (fun _ _ h=>absurd h id)).trans (by obtain⟨_,_,_,h,_⟩:=sN;exact h)
   have SK:u3.heap[n]?=some (.cells fc 133 (0,0)):=(show Fr (dh v.b v.gv v.wv) w4 u3 by obtain⟨_,_,_,h,_⟩:=sN;exact h).keep YO.o (fun hb=>by have:=H3.o.ja (Or.inl hb);have:=BP.o;omega);have Az:=O vW;have HZ3:=O SK;clear Ku sN FQ Kv Dx vW SK;refine hK.out _ _ (HC.o _ Az.o) ?_;intro Bj;clear hK wU K
   try simp only[Act.put,sA,sB,sC]
   refine aO 13 11 rfl ?_;refine aO 14 25 rfl ?_;refine aO 15 26 rfl ?_;refine eK 17 rfl fun K hK=>?_;refine jC rfl 133 (.tmp 6) (.tmp 25) rfl n X rfl rfl 133 fc HZ3.o (DH HX.o.1) HX.o.1.symm HX.o.2.1 ?_;obtain⟨W,hW⟩:∃W,W=u3.setRow n X:=⟨_,rfl⟩;have Bk:Fr (dh v.b v.gv v.wv) x3 W:=by rw[hW];exact iZ Az.o BP.o _
   have hP:=su.before H3.o jH.o BP.o YO.o (eP (H3.o.dt jH.o) (A3.o.dt jH.o) B_.o Na.o) ahD.o ahE.o ag X;rw[<-hW]at hP;rw[<-hW];refine hK.out _ _ (HC.o _ Bk) ?_;intro EA;clear hK Bj K
   try simp only[Act.put,sA,sB,sC]
   refine aO 18 7 rfl ?_;clear EA;refine wpAnyH_done af ?_ _;exact HJ.o n X W ⟨hP.1,fun g hg=>by
    obtain⟨r,e1,e2⟩:=HX.o.2.2 g hg;exact⟨r,e1,e2.mono (fun v l h=>hP.2 v l h)⟩⟩
 ·intro n X W hj;obtain⟨⟨v1,i1,f1,Bi,UU,hX,UW,UB⟩,Kt⟩:=hj;have aa1:=ia A3.o UU;have o1:=eF H3.o f1 KO.o kZ ab;have r1:=eF H3.o f1 KR.o dR ab;have q1:=eF H3.o f1 HQ3.o FJ ab;have haW:Fr aW a W:=QP.o.step f1 (fun k hk hp=>by
   rcases hp with rfl|hp
   ·omega
   ·have:=H3.o.nt hp;omega)
  have HTW:=O (QQ.o.fr haW);have I1:=O i1;have F1:=O f1;have FT1:=O Bi;have Kw:=O aa1;have O1:=O o1;have R1:=O r1;have Q1:=O q1;have HXB:=O hX;have HNF:=O UW;have HNA:=O UB;clear i1 f1 Bi aa1 o1 r1 q1 UU hX UW UB HUS HC haW;cases Ft:us.2 with
  |error k =>
   have hef:ev=.iface 82 (.int .i64 k):=by rw[YN.o,Ft];rfl
   have HR:=O (show lu p (o.dP hs)=({p with bW:=us.1},rep 2)by
    unfold lu;rw[show uX p.bW (o.dP hs).o (o.dP hs).proxy (o.dP hs).path=(us.1,.error k)from by rw[<-Ft];exact HUE.o.symm])
   have HP:=O (show cX base w B cs off v {p with bW:=us.1} W from cW ij.o ⟨v1,I1.o,F1.o,FT1.o,Kw.o.eG⟩);rw[hef];clear Kt Ft YN HUE hef;go_wp2_with (first|((with_reducible refine cP 46 ?_);refine aF rfl 46 (.tmp 4) (.tmp 29) rfl (w.heap.size+1) #[.int .i64 2,.string ⟨#[]⟩,.int .i64 0] rfl rfl _ bQ R1.o (bd _ rfl) rfl bX ?_)|fail)
   refine aR (bh bw _ _ (w.heap.size+1) 46 #[.int .i64 2,.string ⟨#[]⟩,.int .i64 0] (0,0) _ rfl (aY _ (w.heap.size+1) _ _ _ _ R1.o) underlying46 rfl (bd _ rfl)) rfl ?_;unfold eD;rw[HR.o];exact⟨rfl,dw HP.o pU.o oM.o (bT _) R1.o eJ ag _⟩
  |ok g =>
   have hef:ev=.nilIface:=by rw[YN.o,Ft];rfl
   obtain⟨r,Wm,hr⟩:=Kt g Ft;have hgs:Um g:=(Ki (P:=Um) (fun g h=>h) HSM.o.bW).2 g (by rw[<-HUE.o];exact Ft);have UX:=O (show lu p (o.dP hs)=(match qm g (o.dP hs)with|none=>({p with bW:=uI us.1 g.o g.proxy g.a.aP},rep 2)|some s=>({p with bW:=us.1},⟨1,s,0⟩))by
    unfold lu;rw[show uX p.bW (o.dP hs).o (o.dP hs).proxy (o.dP hs).path=(us.1,.ok g)from by rw[<-Ft];exact HUE.o.symm];rfl)
   obtain⟨q1,q2,q3,q4,q5,q6,q7⟩:=hr;obtain⟨e1,e2,e3,e4,e5,e6,e7,Am⟩:=q5;obtain⟨ad,cd,B6⟩:=Am.rd.form;obtain⟨ap,cp,L5⟩:=q7.rd.form
   have xc:X= #[.bool g.o.aG,.string g.o.host,.int .i64 g.o.port,.bool g.proxy,.string g.user,.string g.pass,.int .i64 g.a.scheme,.string g.a.aP,.string g.a.bz,.string g.a.cC,.bool g.a.cD,.string g.a.eY,.bool g.a.du,.slice ad g.a.dom.length cd,.int .i64 g.count,.slice ap g.paths.length cp]:=by
    rw[Wm];unfold aU.cells;rw[q1,q2,q3,q4,q6,e1,e2,e3,e4,e5,e6,e7,B6,L5]
   rw[xc]at HXB;have QS:=HXB.o;have hqn:=Q1.o;have hon:=O1.o;have HGS:=O hgs;have ZU:=O hgs.2.1;have ZP:=O hgs.2.2;have RT:=HF.o;rw[hef];clear Kt Ft YN HUE hef q1 q2 q3 q4 q6 q7 e1 e2 e3 e4 e5 e6 e7 Am B6 L5 xc Wm hgs;have z4:W.cell? ⟨n,4,none⟩=some (.string g.user):=by simp[World.cell?,QS]
   have z5:W.cell? ⟨n,5,none⟩=some (.string g.pass):=by simp[World.cell?,QS]
   have z6:W.cell? ⟨n,6,none⟩=some (.int .i64 g.a.scheme):=by simp[World.cell?,QS]
   by_cases hsc:g.a.scheme=1
   ·have t6':(g.a.scheme==1)=true:=by rw[hsc];rfl
    cases yk:qm g (o.dP hs)with
    |none =>
     have HR:=O (show lu p (o.dP hs)=({p with bW:=uI us.1 g.o g.proxy g.a.aP},rep 2)by rw[UX.o,yk]);have HBA:=O (show∀U,aC 71 #[.agg #[.string g.user,.string g.pass]] U _ from fun U=>M7 hsc yk (aE ZU.o ag) (aE ZP.o ag));have Ws:=O hsc;rw[hsc]at z6;clear yk UX hsc QS hqn hon RT;go_wp2_with fail
     refine(HBA.o _).mono ?_;rintro e u5⟨⟨et,evv,rfl⟩,lC⟩;have HU:=O (lC)
     have SW:=O (show∀U,Fr (dh v1.b v1.gv v1.wv) u5 U->(U.cell? ⟨B,off,none⟩=some (.pointer (some ⟨v1.b,0,none⟩))/\U.cell? ⟨n,0,none⟩=some (.bool g.o.aG)/\U.cell? ⟨n,1,none⟩=some (.string g.o.host)/\U.cell? ⟨n,2,none⟩=some (.int .i64 g.o.port)/\U.cell? ⟨n,3,none⟩=some (.bool g.proxy)/\U.cell? ⟨n,7,none⟩=some (.string g.a.aP))from fun U hU=>by
      have j1:=(Kw.o.dt HU.o).fr hU (fun hb=>I1.o.fa Kw.o.eG ag (Or.inl hb));have j2:=hU.keep (HU.o.keep HXB.o id) (fun hb=>HNF.o (Or.inl hb));refine⟨j1.cell0,?_,?_,?_,?_,?_⟩<;>simp[World.cell?,j2])
     have RL:=O (show∀U,Fr aW u5 U->aC 75 #[.pointer (some ⟨v1.b,0,none⟩),.agg #[.bool g.o.aG,.string g.o.host,.int .i64 g.o.port],.bool g.proxy,.string g.a.aP] U (vQ base U v1.b v1.gv v1.wv us.1 p.waits (mP g.o g.proxy g.a.aP))from fun U hU=>zc base U v1.b v1.gv v1.wv us.1 p.waits g.o g.proxy g.a.aP ((I1.o.dt HU.o).dt hU).oW);go_wp2_with fail
     go_region_held3 (fun U=>Fr (dh v1.b v1.gv v1.wv) u5 U/\U.cell? ⟨B,off,none⟩=some (.pointer (some ⟨v1.b,0,none⟩))/\U.cell? ⟨n,0,none⟩=some (.bool g.o.aG)/\U.cell? ⟨n,1,none⟩=some (.string g.o.host)/\U.cell? ⟨n,2,none⟩=some (.int .i64 g.o.port)/\U.cell? ⟨n,3,none⟩=some (.bool g.proxy)/\U.cell? ⟨n,7,none⟩=some (.string g.a.aP)) ((refine(fun hU=>⟨hU,SW.o _ hU⟩) ?_;first|exact az (ae _ _)|assumption))
      ((first
       |(go_at_call 75;refine(RL.o _ (az (ae _ _))).mono ?_;rintro e u9 ⟨rfl,Nb⟩;have UY:Fr (dh v1.b v1.gv v1.wv) u5 u9:=(az (ae _ _)).trans (by obtain⟨_,_,_,h,_⟩:=Nb;exact h))))
     have UZ:=eP ((I1.o.dt HU.o).dt (az (ae aW u5))) ((Kw.o.dt HU.o).dt (az (ae aW u5))) (I1.o.fa Kw.o.eG ag) Nb;have HP:=O (show cX base w B cs off v {p with bW:=uI us.1 g.o g.proxy g.a.aP} u9 from cW ij.o (gz F1.o FT1.o (cW HU.o (cW (az (ae aW u5)) UZ))));have r9:=O (eF (B:=B) (I1.o.dt HU.o) (UY.mono (fun k _ hk=>Or.inr (Or.inl hk))) (HU.o.keep R1.o id) dR ab);clear UZ Nb UY SW RL
     go_wp2_with (first|((with_reducible refine cP 46 ?_);refine aF rfl 46 (.tmp 4) (.tmp 74) rfl (w.heap.size+1) #[.int .i64 2,.string ⟨#[]⟩,.int .i64 0] rfl rfl _ bQ r9.o (bd _ rfl) rfl bX ?_)|fail)
     refine aR (bh bw _ _ (w.heap.size+1) 46 #[.int .i64 2,.string ⟨#[]⟩,.int .i64 0] (0,0) _ rfl (aY _ (w.heap.size+1) _ _ _ _ r9.o) underlying46 rfl (bd _ rfl)) rfl ?_;unfold eD;rw[HR.o];exact⟨rfl,dw HP.o pU.o oM.o (bT _) r9.o eJ ag _⟩
    |some s =>
     have HR:=O (show lu p (o.dP hs)=({p with bW:=us.1},⟨1,s,0⟩)by rw[UX.o,yk]);have HBA:=O (show∀U,aC 71 #[.agg #[.string g.user,.string g.pass]] U _ from fun U=>M8 hsc yk (aE ZU.o ag) (aE ZP.o ag));have Ws:=O hsc;rw[hsc]at z6;clear yk UX hsc QS hqn hon RT;go_wp2_with fail
     refine(HBA.o _).mono ?_;rintro e u5⟨rfl,lC⟩;have HU:=O (lC);have HP:=O (show cX base w B cs off v {p with bW:=us.1} u5 from cW ij.o (cX.then ⟨v1,I1.o,F1.o,FT1.o,Kw.o.eG⟩ HU.o));have r9:=O (HU.o.keep R1.o id);go_wp2_with (first|((with_reducible refine cP 46 ?_);refine aF rfl 46 (.tmp 4) (.tmp 76) rfl (w.heap.size+1) #[.int .i64 1,.string s,.int .i64 0] rfl rfl _ bQ r9.o (bd _ rfl) rfl bX ?_)|fail)
     refine aR (bh bw _ _ (w.heap.size+1) 46 #[.int .i64 1,.string s,.int .i64 0] (0,0) _ rfl (aY _ (w.heap.size+1) _ _ _ _ r9.o) underlying46 rfl (bd _ rfl)) rfl ?_;unfold eD;rw[HR.o];exact⟨rfl,dw HP.o pU.o oM.o (bT _) r9.o eJ ag _⟩
   ·have t6':(g.a.scheme==1)=false:=aK.2 hsc
    have HC8:=O (show∀U,Fr aW W U->(U.cell? ⟨n,4,none⟩=some (.string g.user)/\U.cell? ⟨n,5,none⟩=some (.string g.pass)/\U.cell? ⟨n,6,none⟩=some (.int .i64 g.a.scheme)/\U.cell? ⟨n,7,none⟩=some (.string g.a.aP)/\U.cell? ⟨n,8,none⟩=some (.string g.a.bz)/\U.cell? ⟨n,9,none⟩=some (.string g.a.cC)/\U.cell? ⟨n,10,none⟩=some (.bool g.a.cD)/\U.cell? ⟨n,11,none⟩=some (.string g.a.eY)/\U.cell? ⟨n,12,none⟩=some (.bool g.a.du)/\U.cell? ⟨n,13,none⟩=some (.slice ad g.a.dom.length cd)/\U.cell? ⟨n,14,none⟩=some (.int .i64 g.count)/\U.cell? ⟨w.heap.size+2,4,none⟩=some (.bool o.aI.o.aG)/\U.cell? ⟨w.heap.size+2,5,none⟩=some (.string o.aI.o.host)/\U.cell? ⟨w.heap.size+2,6,none⟩=some (.int .i64 o.aI.o.port)/\U.cell? ⟨w.heap.size+2,7,none⟩=some (.string o.aI.path)/\U.cell? ⟨w.heap.size+2,8,none⟩=some (.string o.aI.query)/\U.cell? ⟨w.heap.size+2,9,none⟩=some (.string o.aI.method)/\U.cell? ⟨w.heap.size+2,12,none⟩=some (.string o.aI.body)/\U.cell? ⟨w.heap.size,18,none⟩=some (.string o.bI))from fun U hU=>by
     have j2:=hU.keep HXB.o id;have j3:=hU.keep Q1.o id;obtain⟨a0,a1,a2,a3,a4,a5,a6,a7,a8,a9,jr,js,a12,jq,jt,i_,jD,jE,jF,jN,a20,a21⟩:=ed (hU.keep O1.o id) lg.o;refine⟨?_,?_,?_,?_,?_,?_,?_,?_,?_,?_,?_,?_,?_,?_,?_,?_,?_,?_,jF⟩<;>simp[World.cell?,j2,j3])
    have HME:=O (show∀U,aC 73 #[.string o.aI.method] U _ from fun U=>xE o.aI.method U (ix HF.o.method ag));have HTG:=O (show∀U,aC 74 #[.agg #[.bool o.aI.o.aG,.string o.aI.o.host,.int .i64 o.aI.o.port,.string o.aI.path,.string o.aI.query]] U _ from fun U=>Mp o.aI.o o.aI.path o.aI.query U (ix HF.o.path ag) (ix HF.o.query ag))
    have zR:=O (show∀U,Fr aW W U->aC 72 #[.agg #[.int .i64 g.a.scheme,.string g.a.aP,.string g.a.bz,.string g.a.cC,.bool g.a.cD,.string g.a.eY,.bool g.a.du,.slice ad g.a.dom.length cd],.agg #[.string g.user,.string g.pass],.string (ju o.aI.method),.string (nA o.aI.path o.aI.query),.string o.aI.body,.string o.bI,.int .i64 g.count] U (oL g.a.scheme g.a.cC ((o.dP hs).Ya g) g.count U)from fun U hU=>UP (o:=o.dP hs) rfl HGS.o (QN _ HF.o.method) (QO _ _ HF.o.path HF.o.query) HF.o.body HF.o.bI (HTW.o.fr hU))
    cases yk:qm g (o.dP hs)with
    |none =>
     have HR:=O (show lu p (o.dP hs)=({p with bW:=uI us.1 g.o g.proxy g.a.aP},rep 2)by rw[UX.o,yk]);have Ii:=O yk;have Ws:=O hsc;clear yk UX QS hqn hon RT hsc;go_wp2_with fail
     go_region_held3 (fun U=>Fr aW W U/\U.cell? ⟨n,4,none⟩=some (.string g.user)/\U.cell? ⟨n,5,none⟩=some (.string g.pass)/\U.cell? ⟨n,6,none⟩=some (.int .i64 g.a.scheme)/\U.cell? ⟨n,7,none⟩=some (.string g.a.aP)/\U.cell? ⟨n,8,none⟩=some (.string g.a.bz)/\U.cell? ⟨n,9,none⟩=some (.string g.a.cC)/\U.cell? ⟨n,10,none⟩=some (.bool g.a.cD)/\U.cell? ⟨n,11,none⟩=some (.string g.a.eY)/\U.cell? ⟨n,12,none⟩=some (.bool g.a.du)/\U.cell? ⟨n,13,none⟩=some (.slice ad g.a.dom.length cd)/\U.cell? ⟨n,14,none⟩=some (.int .i64 g.count)/\U.cell? ⟨w.heap.size+2,4,none⟩=some (.bool o.aI.o.aG)/\U.cell? ⟨w.heap.size+2,5,none⟩=some (.string o.aI.o.host)/\U.cell? ⟨w.heap.size+2,6,none⟩=some (.int .i64 o.aI.o.port)/\U.cell? ⟨w.heap.size+2,7,none⟩=some (.string o.aI.path)/\U.cell? ⟨w.heap.size+2,8,none⟩=some (.string o.aI.query)/\U.cell? ⟨w.heap.size+2,9,none⟩=some (.string o.aI.method)/\U.cell? ⟨w.heap.size+2,12,none⟩=some (.string o.aI.body)/\U.cell? ⟨w.heap.size,18,none⟩=some (.string o.bI)) ((refine(fun hU=>⟨hU,HC8.o _ hU⟩) ?_;first|exact az (ae _ _)|assumption))
      ((first
       |(go_at_call 73;refine(HME.o _).mono ?_;rintro e u5 ⟨rfl,lC⟩;have tJ:Fr aW W u5:=(by first|exact U0.trans lC|exact(az (ae aW W)).trans lC))
       |(go_at_call 74;refine(HTG.o _).mono ?_;rintro e u6 ⟨rfl,nw⟩;have U0:Fr aW W u6:=(by first|exact tJ.trans nw|exact(az (ae aW W)).trans nw))
       |(go_at_call 72;refine(zR.o _ jL).mono ?_;rintro e u7 PI;obtain⟨⟨et,evv,rfl⟩,oa⟩:=UQ Ws.o Ii.o PI;have Ky:Fr aW W u7:=(by first|exact U0.trans oa|exact tJ.trans oa))))
     all_goals as_aux_lemma =>
      have HU:=O (Ky);have SW:=O (show∀U,Fr (dh v1.b v1.gv v1.wv) u7 U->(U.cell? ⟨B,off,none⟩=some (.pointer (some ⟨v1.b,0,none⟩))/\U.cell? ⟨n,0,none⟩=some (.bool g.o.aG)/\U.cell? ⟨n,1,none⟩=some (.string g.o.host)/\U.cell? ⟨n,2,none⟩=some (.int .i64 g.o.port)/\U.cell? ⟨n,3,none⟩=some (.bool g.proxy)/\U.cell? ⟨n,7,none⟩=some (.string g.a.aP))from fun U hU=>by
       have j1:=(Kw.o.dt HU.o).fr hU (fun hb=>I1.o.fa Kw.o.eG ag (Or.inl hb));have j2:=hU.keep (HU.o.keep HXB.o id) (fun hb=>HNF.o (Or.inl hb));refine⟨j1.cell0,?_,?_,?_,?_,?_⟩<;>simp[World.cell?,j2])
      have RL:=O (show∀U,Fr aW u7 U->aC 75 #[.pointer (some ⟨v1.b,0,none⟩),.agg #[.bool g.o.aG,.string g.o.host,.int .i64 g.o.port],.bool g.proxy,.string g.a.aP] U (vQ base U v1.b v1.gv v1.wv us.1 p.waits (mP g.o g.proxy g.a.aP))from fun U hU=>zc base U v1.b v1.gv v1.wv us.1 p.waits g.o g.proxy g.a.aP ((I1.o.dt HU.o).dt hU).oW);go_wp2_with fail
      go_region_held3 (fun U=>Fr (dh v1.b v1.gv v1.wv) u7 U/\U.cell? ⟨B,off,none⟩=some (.pointer (some ⟨v1.b,0,none⟩))/\U.cell? ⟨n,0,none⟩=some (.bool g.o.aG)/\U.cell? ⟨n,1,none⟩=some (.string g.o.host)/\U.cell? ⟨n,2,none⟩=some (.int .i64 g.o.port)/\U.cell? ⟨n,3,none⟩=some (.bool g.proxy)/\U.cell? ⟨n,7,none⟩=some (.string g.a.aP)) ((refine(fun hU=>⟨hU,SW.o _ hU⟩) ?_;first|exact az (ae _ _)|assumption))
       ((first
        |(go_at_call 75;refine(RL.o _ (az (ae _ _))).mono ?_;rintro e u9 ⟨rfl,Nb⟩;have UY:Fr (dh v1.b v1.gv v1.wv) u7 u9:=(az (ae _ _)).trans (by obtain⟨_,_,_,h,_⟩:=Nb;exact h))))
      have UZ:=eP ((I1.o.dt HU.o).dt (az (ae aW u7))) ((Kw.o.dt HU.o).dt (az (ae aW u7))) (I1.o.fa Kw.o.eG ag) Nb;have HP:=O (show cX base w B cs off v {p with bW:=uI us.1 g.o g.proxy g.a.aP} u9 from cW ij.o (gz F1.o FT1.o (cW HU.o (cW (az (ae aW u7)) UZ))));have r9:=O (eF (B:=B) (I1.o.dt HU.o) (UY.mono (fun k _ hk=>Or.inr (Or.inl hk))) (HU.o.keep R1.o id) dR ab);clear UZ Nb UY SW RL
      go_wp2_with (first|((with_reducible refine cP 46 ?_);refine aF rfl 46 (.tmp 4) (.tmp 74) rfl (w.heap.size+1) #[.int .i64 2,.string ⟨#[]⟩,.int .i64 0] rfl rfl _ bQ r9.o (bd _ rfl) rfl bX ?_)|fail)
      refine aR (bh bw _ _ (w.heap.size+1) 46 #[.int .i64 2,.string ⟨#[]⟩,.int .i64 0] (0,0) _ rfl (aY _ (w.heap.size+1) _ _ _ _ r9.o) underlying46 rfl (bd _ rfl)) rfl ?_;unfold eD;rw[HR.o];exact⟨rfl,dw HP.o pU.o oM.o (bT _) r9.o eJ ag _⟩
    |some s =>
     have HR:=O (show lu p (o.dP hs)=({p with bW:=us.1},⟨1,s,0⟩)by rw[UX.o,yk]);have Ii:=O yk;have Ws:=O hsc;clear yk UX QS hqn hon RT hsc;go_wp2_with fail
     go_region_held3 (fun U=>Fr aW W U/\U.cell? ⟨n,4,none⟩=some (.string g.user)/\U.cell? ⟨n,5,none⟩=some (.string g.pass)/\U.cell? ⟨n,6,none⟩=some (.int .i64 g.a.scheme)/\U.cell? ⟨n,7,none⟩=some (.string g.a.aP)/\U.cell? ⟨n,8,none⟩=some (.string g.a.bz)/\U.cell? ⟨n,9,none⟩=some (.string g.a.cC)/\U.cell? ⟨n,10,none⟩=some (.bool g.a.cD)/\U.cell? ⟨n,11,none⟩=some (.string g.a.eY)/\U.cell? ⟨n,12,none⟩=some (.bool g.a.du)/\U.cell? ⟨n,13,none⟩=some (.slice ad g.a.dom.length cd)/\U.cell? ⟨n,14,none⟩=some (.int .i64 g.count)/\U.cell? ⟨w.heap.size+2,4,none⟩=some (.bool o.aI.o.aG)/\U.cell? ⟨w.heap.size+2,5,none⟩=some (.string o.aI.o.host)/\U.cell? ⟨w.heap.size+2,6,none⟩=some (.int .i64 o.aI.o.port)/\U.cell? ⟨w.heap.size+2,7,none⟩=some (.string o.aI.path)/\U.cell? ⟨w.heap.size+2,8,none⟩=some (.string o.aI.query)/\U.cell? ⟨w.heap.size+2,9,none⟩=some (.string o.aI.method)/\U.cell? ⟨w.heap.size+2,12,none⟩=some (.string o.aI.body)/\U.cell? ⟨w.heap.size,18,none⟩=some (.string o.bI)) ((refine(fun hU=>⟨hU,HC8.o _ hU⟩) ?_;first|exact az (ae _ _)|assumption))
      ((first
       |(go_at_call 73;refine(HME.o _).mono ?_;rintro e u5 ⟨rfl,lC⟩;have tJ:Fr aW W u5:=(by first|exact U0.trans lC|exact(az (ae aW W)).trans lC))
       |(go_at_call 74;refine(HTG.o _).mono ?_;rintro e u6 ⟨rfl,nw⟩;have U0:Fr aW W u6:=(by first|exact tJ.trans nw|exact(az (ae aW W)).trans nw))
       |(go_at_call 72;refine(zR.o _ jL).mono ?_;rintro e u7 PI;obtain⟨rfl,oa⟩:=UR Ws.o Ii.o PI;have Ky:Fr aW W u7:=(by first|exact U0.trans oa|exact tJ.trans oa))))
     all_goals as_aux_lemma =>
      have HU:=O (Ky);have HP:=O (show cX base w B cs off v {p with bW:=us.1} u7 from cW ij.o (cX.then ⟨v1,I1.o,F1.o,FT1.o,Kw.o.eG⟩ HU.o));have r9:=O (HU.o.keep R1.o id);go_wp2_with (first|((with_reducible refine cP 46 ?_);refine aF rfl 46 (.tmp 4) (.tmp 76) rfl (w.heap.size+1) #[.int .i64 1,.string s,.int .i64 0] rfl rfl _ bQ r9.o (bd _ rfl) rfl bX ?_)|fail)
      refine aR (bh bw _ _ (w.heap.size+1) 46 #[.int .i64 1,.string s,.int .i64 0] (0,0) _ rfl (aY _ (w.heap.size+1) _ _ _ _ r9.o) underlying46 rfl (bd _ rfl)) rfl ?_;unfold eD;rw[HR.o];exact⟨rfl,dw HP.o pU.o oM.o (bT _) r9.o eJ ag _⟩
