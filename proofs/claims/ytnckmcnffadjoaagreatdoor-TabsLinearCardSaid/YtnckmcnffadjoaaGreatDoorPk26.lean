/- Lemmas for the law's walk. -/
import Derived.Test.YtnckmcnffadjoaaGreatDoorPk16
import Derived.Test.YtnckmcnffadjoaaGreatDoorPk22
set_option maxRecDepth 100000
set_option maxHeartbeats 16000000
set_option linter.unusedSimpArgs false
namespace Go.Proofs.YtnckmcnffadjoaaGreatDoor
open Go.Proofs.Tryz
open Go.RowKit
variable {w w' U:World} {g j:Nat} {l:List Int} {e:Ending} {o:iE}
theorem qT.cell(h:qT w g l)(hj:j<l.length):w.cell? ⟨g,j,none⟩=some (.int .u32 (l.getD j 0)):=by
 unfold qT at h;simp only[World.cell?,h];simp[List.getElem?_append_left,hj,List.getD_eq_getElem?_getD]
theorem qT.zero(h:qT w g l)(hj:l.length<64):w.cell? ⟨g,l.length,none⟩=some (.int .u32 0):=by
 unfold qT at h;have e:((l++List.replicate (64-l.length) 0).map (Value.int IntKind.u32))[l.length]?=some (Value.int IntKind.u32 0):=by
  rw[List.getElem?_map,List.getElem?_append_right (ay _),Nat.sub_self,List.getElem?_replicate];rw[az ab];rfl
 simp only[World.cell?,h];simpa using e
theorem qT.free(h:qT w g l)(j:Nat):w.frozen? ⟨g,j,none⟩=false:=by
 unfold qT at h;simp[World.frozen?,h]
theorem qT.set(h:qT w g l)(hj:l.length<64)(x:Int):qT (w.setCell ⟨g,l.length,none⟩ (.int .u32 x)) g (l++[x]):=by
 unfold qT at h ⊢;rw[um h]
 congr 2
 have e:List.replicate (64-l.length) (0:Int)=0 :: List.replicate (64-(l++[x]).length) 0:=by
  rw[aK,show 64-l.length=(64-(l.length+[x].length))+1 from bH,List.replicate_succ]
 rw[e];simp
theorem ajz(a b c d:Int):IntKind.u32.wrap (IntKind.u32.wrap (IntKind.u32.wrap (a+b)+c)+d)=(a+b+c+d)%4294967296:=by
 have e:∀x:Int,IntKind.u32.wrap x=x%4294967296:=fun x=>by simp[IntKind.wrap,IntKind.signed,IntKind.bits]
 rw[e,e,e];omega
theorem EI(x:Int):IntKind.u32.wrap x=x%4294967296:=by simp[IntKind.wrap,IntKind.signed,IntKind.bits]
theorem ajA(a b c d e:Int):IntKind.u32.wrap (IntKind.u32.wrap (IntKind.u32.wrap (IntKind.u32.wrap (a+b)+c)+d)+e)=(a+b+c+d+e)%4294967296:=by
 rw[EI,EI,EI,EI];omega
theorem aeW(a0 a1 a2 a3 a4 a5 a6 a7:Int):prog.built 291 [(0,.int .u32 a0),(1,.int .u32 a1),(2,.int .u32 a2),(3,.int .u32 a3),(4,.int .u32 a4),(5,.int .u32 a5),(6,.int .u32 a6),(7,.int .u32 a7)]=some #[.int .u32 a0,.int .u32 a1,.int .u32 a2,.int .u32 a3,.int .u32 a4,.int .u32 a5,.int .u32 a6,.int .u32 a7]:=af
theorem FY{ops:Array Oper}{rest:List Oper}{o:Oper}{a:Act}{w:World}{Q:Exit->Act->World->Prop}(hg:o.guard=none)(x0 x1 x2 x3 x4 x5 x6 x7:Operand)
  (ho:o.op=.build 291 #[(0,x0),(1,x1),(2,x2),(3,x3),(4,x4),(5,x5),(6,x6),(7,x7)])(d:Option Tmp)(hd:o.dst=d)(v0 v1 v2 v3 v4 v5 v6 v7:Int)
  (h0:a.eval x0=.int .u32 v0)(h1:a.eval x1=.int .u32 v1)(h2:a.eval x2=.int .u32 v2)(h3:a.eval x3=.int .u32 v3)(h4:a.eval x4=.int .u32 v4)(h5:a.eval x5=.int .u32 v5)(h6:a.eval x6=.int .u32 v6)(h7:a.eval x7=.int .u32 v7)
  (h:wpList prog ops Q rest (a.put d (.agg #[.int .u32 v0,.int .u32 v1,.int .u32 v2,.int .u32 v3,.int .u32 v4,.int .u32 v5,.int .u32 v6,.int .u32 v7])) w):wpList prog ops Q (o :: rest) a w:=by
 refine wpList_buildTo hg 291 _ ho d hd _ ?_ h;simp only[eH,cF,dv,h0,h1,h2,h3,h4,h5,h6,h7];exact aeW _ _ _ _ _ _ _ _
theorem xa{k:Nat}(h:k≠g)(cs:bT):(w.setRow g cs).heap[k]?=w.heap[k]?:=by
 simp[World.setRow,Array.getElem?_modify,lj h]
theorem Wp{a:World}(h:Fr aS a w)(hg:a.heap.size<=g)(cs:bT):Fr aS a (w.setRow g cs) :=
 ⟨h.os,h.tape,h.output,by show a.heap.size<=(w.setRow g cs).heap.size;rw[World.setRow];simp only[Array.size_modify];exact h.size,fun k hk hn=>(xa ab cs).trans (h.block k hk hn)⟩
theorem aeX(v0 v1 v2 v3 v4 v5 v6 v7:Int):(#[.int .u32 v0,.int .u32 v1,.int .u32 v2,.int .u32 v3,.int .u32 v4,.int .u32 v5,.int .u32 v6,.int .u32 v7]:bT).all (·.oneCell')=true:=cC
def vh(w:World)(g:Nat)(l:List Int):Prop:=w.heap[g]?=some (.cells (l.map (Value.int .u32)).toArray 291 (0,0))
theorem vh.cell(h:vh w g l)(hj:j<l.length):w.cell? ⟨g,j,none⟩=some (.int .u32 (l.getD j 0)):=by
 unfold vh at h;simp only[World.cell?,h];simp[hj,List.getD_eq_getElem?_getD]
theorem vh.free(h:vh w g l)(j:Nat):w.frozen? ⟨g,j,none⟩=false:=by
 unfold vh at h;simp[World.frozen?,h]
theorem vh.set(h:vh w g l)(j:Nat)(x:Int):vh (w.setCell ⟨g,j,none⟩ (.int .u32 x)) g (l.set j x):=by
 unfold vh at h ⊢;rw[um h];simp[List.map_set]
def Jl(a b:List Int):Nat->List Int
 |0=>a
 |k+1=>(Jl a b k).set k ((a.getD k 0+b.getD k 0)%4294967296)
theorem Mg(a b:List Int):∀k,(Jl a b k).length=a.length
 |0=>rfl
 |k+1=>by rw[Jl,en,Mg a b k]
theorem Mh(a b:List Int):∀k j,k<=j->(Jl a b k).getD j 0=a.getD j 0
 |0,_,_=>rfl
 |k+1,j,h=>by
  rw[Jl,List.getD_eq_getElem?_getD,List.getElem?_set,aq ab, <-List.getD_eq_getElem?_getD,Mh a b k j ab]
theorem aaE(T:aH):∀k,∀x∈(Bn T k).list,0<=x/\x<4294967296
 |0=>by
  intro x hx;simp only[Bn,Sh.list,sh0,bC,cA,dY]at hx;rcases hx with rfl|rfl|rfl|rfl|rfl|rfl|rfl|rfl<;>decide
 |k+1=>by
  intro x hx;simp only[Bn,zS,Qp,Sh.list,bC,cA,dY]at hx;rcases hx with rfl|rfl|rfl|rfl|rfl|rfl|rfl|rfl<;>exact Bl _
def ao7(H V:Sh)(g g1:Nat)(w:World)(i:Value)(wr:World):Prop :=
 ∃k:Nat,k<=8/\i=.int .i64 k/\vh wr g (Jl H.list V.list k)/\vh wr g1 V.list/\Fr aS w wr
def ao8(tr:Nat->Sh)(ws:List Int)(H:Sh)(g g1 gw:Nat)(w:World)(i:Value)(wr:World):Prop :=
 ∃k:Nat,k<=64/\i=.int .i64 k/\vR wr g (tr k)/\vR wr g1 H/\qT wr gw ws/\Fr aS w wr
theorem vR.cells{h:Sh}(hm:vR w g h):w.cell? ⟨g,0,none⟩=some (.int .u32 h.v0)/\w.cell? ⟨g,1,none⟩=some (.int .u32 h.v1)/\w.cell? ⟨g,2,none⟩=some (.int .u32 h.v2)/\w.cell? ⟨g,3,none⟩=some (.int .u32 h.v3) /\
  w.cell? ⟨g,4,none⟩=some (.int .u32 h.v4)/\w.cell? ⟨g,5,none⟩=some (.int .u32 h.v5)/\w.cell? ⟨g,6,none⟩=some (.int .u32 h.v6)/\w.cell? ⟨g,7,none⟩=some (.int .u32 h.v7):=by
 unfold vR at hm;simp[World.cell?,hm]
def ajB(X:aH)(g:Nat)(w:World)(i:Value)(wr:World):Prop:=∃k:Nat,k<=64/\i=.int .i64 k/\qT wr g (Yp X k)/\Fr aS w wr
set_option pp.deepTerms true in
set_option pp.maxSteps 1000000 in
theorem OH(s:aj)(w:World)(hs:s.size<4398046511104)(ht:tP w) :
  aB 208 #[.string s] w fun e w'=>e=.returned (.string ⟨(Ln s.data.toList).toArray⟩)/\Fr aS w w':=by
 have c0:=ht.b.2 0 _ rfl;have c1:=ht.b.2 1 _ rfl;have c2:=ht.b.2 2 _ rfl;have c3:=ht.b.2 3 _ rfl;have c4:=ht.b.2 4 _ rfl;have c5:=ht.b.2 5 _ rfl;have c6:=ht.b.2 6 _ rfl;have c7:=ht.b.2 7 _ rfl
 have gX:Fr aS w (w.alloc (.cells #[.int .u32 1779033703,.int .u32 3144134277,.int .u32 1013904242,.int .u32 2773480762,.int .u32 1359893119,.int .u32 2600822924,.int .u32 528734635,.int .u32 1541459225] 291)):=(ae aS w).alloc _
 have Zc:vR (w.alloc (.cells #[.int .u32 1779033703,.int .u32 3144134277,.int .u32 1013904242,.int .u32 2773480762,.int .u32 1359893119,.int .u32 2600822924,.int .u32 528734635,.int .u32 1541459225] 291)) w.heap.size sh0:=aC _ _;have HM0:=O Zc;clear Zc;go_enter func208,ntmps208;go_wp2_with fail
 clear c0 c1 c2 c3 c4 c5 c6 c7;refine(Ql s false _ ab).mono ?_;rintro e w1⟨rfl,dk⟩;obtain⟨T,hT⟩:∃T,T=(⟨(vO false s.data.toList).toArray⟩:aj):=⟨_,rfl⟩;rw[<-hT];have hTl:T.data.toList=vO false s.data.toList:=by rw[hT]
 have hTs:T.size=(vO false s.data.toList).length:=by rw[<-hTl];simp
 obtain⟨adR,U4⟩:=Lk false s.data.toList;rw[<-hTs]at adR U4;have Ll:s.data.toList.length=s.size:=aR;rw[Ll]at U4;have DY:=O (show Ln s.data.toList=oZ false (Bn T.data.toList (T.size/64)).list by unfold Ln;rw[hTl,hTs]);have HM1:=O (show vR w1 w.heap.size sh0 from dk.keep HM0.o id);have ln:=O (gX.trans dk);clear hT hTl hTs HM0 gX dk Ll;go_wp2
 go_loopw[4] (aia T w.heap.size w) (fun t _=>match t with| .string x=>x.size|_=>0)
 case atStart=>exact⟨0,ab,by rw[Nat.mul_zero];congr 1;apply Go.WideShapes.bytes_inj;rw[kK];rfl,HM1.o,ln.o⟩
 case round =>
  obtain⟨n,hn,rfl,hm,cP⟩:=hrel;generalize wr=wo at *
  by_cases hne:64*n<T.size
  ·have U5:64<=(T.extract (64*n) T.size).size:=by rw[jL];omega
   have anM:(T.extract (64*n) T.size).size<17592186044416:=by rw[jL];omega
   have qt:=O (Qn T (64*n) 64);have hXl:=O (kK T (64*n));generalize T.extract (64*n) T.size=X at *
   have HM:=O hm;have qm:=O (show Bn T.data.toList (n+1)=zS X.data.toList (Bn T.data.toList n)by rw[hXl.o];rfl);generalize Bn T.data.toList n=H at *
   clear hm;have hx:X.toList.isEmpty=false:=by
    rw[aP];cases hq:X.data.toList with
    |nil=>rw[hZ.1 hq]at U5;omega
    |cons a l=>rfl
   have UE:¬X.toList=[]:=by rw[aP];intro h;rw[hZ.1 h]at U5;omega
   go_wp2;go_loopw[23] (ajB X.data.toList wo.heap.size wo) (fun i _=>64-(intOf i).toNat)
   case atStart=>exact⟨0,ab,rfl,by unfold qT;rw[aC];kernel_rfl,(ae _ _).alloc _⟩
   case round =>
    obtain⟨k,hk,rfl,yS,jz⟩:=hrel;have hlen:=O (Qo X.data.toList k);have JX:=O (show Yp X.data.toList (k+1)=GJ X.data.toList (Yp X.data.toList k) k from rfl);have H64:=O (show k=64->Yp X.data.toList k=Yp X.data.toList 64 from fun h=>by rw[h]);generalize Yp X.data.toList k=l at *
    by_cases Ld:k<64
    ·have pE:(k:Int)<64:=ab;have hz:=yS.zero (by rw[hlen.o];exact Ld);have hf:=yS.free k;rw[hlen.o]at hz;have re:=O (yS.set (by rw[hlen.o];exact Ld) (GI X.data.toList l k));by_cases vP:k<16
     ·have ajC:(k:Int)<16:=ab;obtain⟨wv,FJ⟩:∃wv,wv=qY false (X.extract (4*k) X.size).data.toList:=⟨_,rfl⟩;have tj:=O (fun W=>wP (X.extract (4*k) X.size) false W (by rw[jL];omega) (by rw[jL];omega));rw[<-FJ]at tj;have HN:=O (show GI X.data.toList l k=wv by unfold GI;rw[az vP,FJ,kK]);clear FJ;have q2:4*(k:Int)<=(X.size:Int):=ab;go_wp2_with fail
      refine(tj.o _).mono ?_;rintro e w5⟨rfl,nq,rfl⟩;have GL:=O (show qT (wr.drewN nq) wo.heap.size l from yS);have hz5:(wr.drewN nq).cell? ⟨wo.heap.size,k,none⟩=some (.int .u32 0):=hz;have lN:(wr.drewN nq).frozen? ⟨wo.heap.size,k,none⟩=false:=hf;have ajD:=O (show qT ((wr.drewN nq).setCell ⟨wo.heap.size,k,none⟩ (.int .u32 wv)) wo.heap.size (GJ X.data.toList l k)from by
       have h:=yS.set (by rw[hlen.o];exact Ld) wv;rw[hlen.o]at h;unfold GJ;rw[HN.o];exact h)
      have yR:=jz.drewN nq;clear hz hf;generalize wr.drewN nq=wd at *
      go_wp2;go_roundw
      case rel=>exact⟨k+1,ab,bg,by rw[JX.o];exact ajD.o,yR.gN (p:=⟨wo.heap.size,k,none⟩) (ay _) _⟩
      case measure=>simp[intOf];omega
     ·have ajC:¬(k:Int)<16:=ab;obtain⟨YF,e16⟩:∃j:Nat,(k:Int)-16=(j:Int):=⟨k-16,ab⟩;obtain⟨j15,e15⟩:∃j:Nat,(k:Int)-15=(j:Int):=⟨k-15,ab⟩;obtain⟨j7,e7⟩:∃j:Nat,(k:Int)-7=(j:Int):=⟨k-7,ab⟩;obtain⟨j2,e2⟩:∃j:Nat,(k:Int)-2=(j:Int):=⟨k-2,ab⟩;have x16:=yS.cell (j:=YF) (by rw[hlen.o];omega);have x15:=yS.cell (j:=j15) (by rw[hlen.o];omega);have x7:=yS.cell (j:=j7) (by rw[hlen.o];omega)
      have x2:=yS.cell (j:=j2) (by rw[hlen.o];omega);have HN:=O (show GI X.data.toList l k=(l.getD YF 0+l.getD j7 0+adV (l.getD j15 0)+adW (l.getD j2 0))%4294967296 by
       unfold GI;rw[aq vP,show k-16=YF from ab,show k-15=j15 from ab,show k-7=j7 from ab,show k-2=j2 from ab])
      generalize l.getD YF 0=v16 at *
      generalize l.getD j15 0=v15 at *
      generalize l.getD j7 0=v7 at *
      generalize l.getD j2 0=v2 at *
      have w16:IntKind.i64.wrap ((k:Int)-16)=(YF:Int):=by rw[<-e16];exact IntWalk.i64_in _ ab
      have w15:IntKind.i64.wrap ((k:Int)-15)=(j15:Int):=by rw[<-e15];exact IntWalk.i64_in _ ab
      have w7:IntKind.i64.wrap ((k:Int)-7)=(j7:Int):=by rw[<-e7];exact IntWalk.i64_in _ ab
      have w2:IntKind.i64.wrap ((k:Int)-2)=(j2:Int):=by rw[<-e2];exact IntWalk.i64_in _ ab
      have b16:(YF:Int)<64:=ab;have b15:(j15:Int)<64:=ab;have b7:(j7:Int)<64:=ab;have b2:(j2:Int)<64:=ab;have n16:YF<64:=ab;have n15:j15<64:=ab;have n7:j7<64:=ab;have n2:j2<64:=ab;go_wp2;go_quiet (fail);have X16:(wr.drewN nq).cell? ⟨wo.heap.size,YF,none⟩=some (.int .u32 v16):=x16;have X7:(wr.drewN nq).cell? ⟨wo.heap.size,j7,none⟩=some (.int .u32 v7):=x7
      have hz5:(wr.drewN nq).cell? ⟨wo.heap.size,k,none⟩=some (.int .u32 0):=hz;have lN:(wr.drewN nq).frozen? ⟨wo.heap.size,k,none⟩=false:=hf;have GL:=O (show qT (wr.drewN nq) wo.heap.size l from yS);have yR:=jz.drewN nq;clear x16 x7 hz hf yS re jz;generalize wr.drewN nq=wd at *
      go_wp2_with fail
      have y16:IntKind.i64.wrap (YF:Int)=(YF:Int):=IntWalk.i64_in _ ab;have y7:IntKind.i64.wrap (j7:Int)=(j7:Int):=IntWalk.i64_in _ ab;clear w16 w15 w7 w2;refine wp_region_still_tail 29 af af ?_;simp only[List.take_succ_cons,List.take_zero,List.drop_succ_cons,eI]
      iterate 11 still_step
      still_call (anO v15 _)
      iterate 1 still_step
      still_call (ah3 v15 _)
      iterate 6 still_step
      still_call (ah4 v2 _)
      iterate 1 still_step
      still_call (ah5 v2 _)
      iterate 6 still_step
      refine wpStill_nil ?_;change wpList _ _ _ _ _ wd.drew;have HS:=O (show∀x,qT (wd.drew.setCell ⟨wo.heap.size,k,none⟩ (.int .u32 x)) wo.heap.size (l++[x])from fun x=>by
       have h:=(show qT wd.drew wo.heap.size l from GL.o).set (by rw[hlen.o];exact Ld) x;rw[hlen.o]at h;exact h)
      have hz6:wd.drew.cell? ⟨wo.heap.size,k,none⟩=some (.int .u32 0):=hz5;have nL:wd.drew.frozen? ⟨wo.heap.size,k,none⟩=false:=lN;have aaF:Fr aS wo wd.drew:=yR.drew;clear hz5 lN X16 X7 y16 y7 e16 e15 e7 e2;generalize wd.drew=we at *
      go_wp2_with fail
      go_wp2;go_roundw
      case rel=>exact⟨k+1,ab,bg,by rw[JX.o];unfold GJ;rw[HN.o];unfold adV adW Lm;rw[<-ajz];exact HS.o _,aaF.gN (p:=⟨wo.heap.size,k,none⟩) (ay _) _⟩
      case measure=>simp[intOf];omega
    ·have U6:k=64:=ab;rw[show((k:Nat):Int)=64 from ab];subst U6;have HWS:=O (H64.o rfl);have HW:=O yS;clear H64;have hm3:vR wr w.heap.size H:=jz.keep HM.o id;obtain⟨c0,c1,c2,c3,c4,c5,c6,c7⟩:=hm3.cells;have TS:=O hm3;obtain⟨gv,hgv⟩:∃gv,gv=wr.heap.size:=⟨_,rfl⟩;have av4:w.heap.size<gv:=by rw[hgv];exact bq hm3
     have av6:wo.heap.size<gv:=by rw[hgv];exact bq yS
     have av7:w.heap.size<wo.heap.size:=bq HM.o;clear hm3 yS;obtain⟨tr,htr⟩:∃tr,tr=zR l H:=⟨_,rfl⟩;have Dk:=O (show∀k,tr (k+1)=U9 (tr k) (shP l k (tr k)) (shQ (tr k))from fun k=>by rw[htr];rfl);have OI:=O (show tr 0=H by rw[htr];rfl);have HSB:=O (show zS X.data.toList H=Qp H (tr 64)by unfold zS;rw[htr,HWS.o]);clear htr;go_wp2;clear c0 c1 c2 c3 c4 c5 c6 c7
     have GA:Fr aS wr (wr.alloc (.cells #[.int .u32 H.v0,.int .u32 H.v1,.int .u32 H.v2,.int .u32 H.v3,.int .u32 H.v4,.int .u32 H.v5,.int .u32 H.v6,.int .u32 H.v7] 291)):=(ae aS wr).alloc _;have Nk:=cP.trans (jz.trans GA);rw[<-hgv];have HG:=O hgv;clear hgv;go_loopw[74] (ao8 tr l H gv w.heap.size wo.heap.size w) (fun i _=>64-(intOf i).toNat)
     case atStart=>exact⟨0,ab,rfl,by rw[OI.o,HG.o];exact aC _ _,GA.keep TS.o id,GA.keep HW.o id,Nk⟩
     case round =>
      clear GA Nk TS HW jz;obtain⟨k,hk,rfl,hv,hh,hww,qR⟩:=hrel;generalize wr=wi at *
      by_cases Ld:k<64
      ·have pE:(k:Int)<64:=ab;obtain⟨z,hz⟩:∃z,D0[k]?=some z:=⟨_,List.getElem?_eq_getElem (by show k<64;omega)⟩;have acG:wi.cell? ⟨2,k,none⟩=some (.int .u32 z):=(ht.fr qR).r.2 k z hz;have hzd:=O (show D0.getD k 0=z by rw[List.getD_eq_getElem?_getD,hz];rfl);clear hz;have hwk:=hww.cell (j:=k) (by rw[hlen.o];exact Ld);obtain⟨x,hx⟩:∃x,x=l.getD k 0:=⟨_,rfl⟩;rw[<-hx]at hwk;have HS1:=O (Dk.o k)
       generalize tr k=V at *
       have HP:=O (show shP l k V=(V.v7+Lm (mq V.v4 26) (mq V.v4 21) (mq V.v4 7)+bits .xor .u32 (bits .and .u32 V.v4 V.v5) (bits .and .u32 (NT V.v4) V.v6)+z+x)%4294967296 by unfold shP;rw[hzd.o,hx]);obtain⟨c0,c1,c2,c3,c4,c5,c6,c7⟩:=hv.cells;have HV:=O hv;have HH:=O hh;have xP:=O hww;clear hv hh hww hx;go_wp2;go_quiet (fail);go_wp2_with fail
       have HV2:=O (show vR (wi.drewN nq) gv V from HV.o);have HH2:=O (show vR (wi.drewN nq) w.heap.size H from HH.o);have ajE:=O (show qT (wi.drewN nq) wo.heap.size l from xP.o);have ae1:(wi.drewN nq).cell? ⟨2,k,none⟩=some (.int .u32 z):=acG;have apd:(wi.drewN nq).cell? ⟨wo.heap.size,k,none⟩=some (.int .u32 x):=hwk;have oI:=qR.drewN nq;clear HV HH xP acG hwk qR c0 c1 c2 c3 c4 c5 c6 c7
       generalize wi.drewN nq=wd at *
       obtain⟨c0,c1,c2,c3,c4,c5,c6,c7⟩:=HV2.o.cells;refine wp_region_still_tail 30 af af ?_;simp only[List.take_succ_cons,List.take_zero,List.drop_succ_cons,eI]
       iterate 3 still_step
       still_call (anP V.v4 _)
       iterate 1 still_step
       still_call (ah6 V.v4 _)
       iterate 2 still_step
       still_call (ah7 V.v4 _)
       iterate 21 still_step
       refine wpStill_nil ?_;rw[show(if IntKind.u32.signed=true then(-1:Int)else IntKind.u32.max)=IntKind.u32.max from rfl];rw[show bits .xor .u32 IntKind.u32.max V.v4=NT V.v4 from rfl];generalize hy0:NT V.v4=y0;generalize hy2:bits .xor .u32 (bits .and .u32 V.v4 V.v5) (bits .and .u32 y0 V.v6)=y2;generalize bits .and .u32 y0 V.v6=y3
       generalize Fs:bits .xor .u32 (bits .xor .u32 (mq V.v4 26) (mq V.v4 21)) (mq V.v4 7)=y1;generalize Cy:IntKind.u32.wrap (V.v7+y1)=s1;generalize Nf:IntKind.u32.wrap (s1+y2)=s2;generalize Ut:IntKind.u32.wrap (s2+z)=s3;generalize hs4:IntKind.u32.wrap (s3+x)=p;have HP2:=O (show shP l k V=p by rw[HP.o, <-hs4, <-Ut, <-Nf, <-Cy, <-Fs, <-hy2, <-hy0,ajA];rfl);clear hs4 Ut Nf Cy Fs hy2 hy0 HP ae1 apd
       change wpList _ _ _ _ _ wd.drew;have T9:=O (show vR (wd.drew) gv V from HV2.o);have HH3:=O (show vR (wd.drew) w.heap.size H from HH2.o);have ajH:=O (show qT (wd.drew) wo.heap.size l from ajE.o);have yR:=oI.drew;clear HV2 HH2 ajE oI c0 c1 c2 c3 c4 c5 c6 c7;generalize wd.drew=we at *
       obtain⟨c0,c1,c2,c3,c4,c5,c6,c7⟩:=T9.o.cells
       iterate 7 go_step
       refine wp_region_still_tail 24 af af ?_;simp only[List.take_succ_cons,List.take_zero,List.drop_succ_cons,eI]
       iterate 1 still_step
       still_call (anQ V.v0 _)
       iterate 1 still_step
       still_call (ah8 V.v0 _)
       iterate 2 still_step
       still_call (ah9 V.v0 _)
       iterate 17 still_step
       refine wpStill_nil ?_;generalize hy4:bits .xor .u32 (bits .xor .u32 (bits .and .u32 V.v0 V.v1) (bits .and .u32 V.v0 V.v2)) (bits .and .u32 V.v1 V.v2)=y4;generalize hy5:bits .xor .u32 (bits .xor .u32 (mq V.v0 30) (mq V.v0 19)) (mq V.v0 10)=y5;generalize hs5:IntKind.u32.wrap (y5+y4)=q;have YG:=O (show shQ V=q by rw[<-hs5, <-hy5, <-hy4];unfold shQ Lm;rw[EI]);clear hs5 hy5 hy4
       change wpList _ _ _ _ _ we.drew;have HV4:=O (show vR (we.drew) gv V from T9.o);have HH4:=O (show vR (we.drew) w.heap.size H from HH3.o);have ape:=O (show qT (we.drew) wo.heap.size l from ajH.o);have aaF:=yR.drew;clear T9 HH3 ajH yR c0 c1 c2 c3 c4 c5 c6 c7;generalize we.drew=wf at *
       obtain⟨c0,c1,c2,c3,c4,c5,c6,c7⟩:=HV4.o.cells;have hb:wf.heap[gv]?=some (.cells #[.int .u32 V.v0,.int .u32 V.v1,.int .u32 V.v2,.int .u32 V.v3,.int .u32 V.v4,.int .u32 V.v5,.int .u32 V.v6,.int .u32 V.v7] 291 (0,0)):=HV4.o;have HB:=O hb;clear hb
       go_wp2_with (first|((with_reducible refine dr 154 ?_);refine FY rfl (.tmp 137) (.tmp 139) (.tmp 141) (.tmp 143) (.tmp 147) (.tmp 149) (.tmp 151) (.tmp 153) rfl (some 154) rfl ((p+q)%4294967296) V.v0 V.v1 V.v2 ((V.v3+p)%4294967296) V.v4 V.v5 V.v6 rfl rfl rfl rfl rfl rfl rfl rfl ?_)|((with_reducible refine kD ⟨none,_,_,_,_,_⟩ ?_);refine wpList_store_rowTo rfl 291 (.tmp 9) (.tmp 154) rfl rfl gv #[.int .u32 ((p+q)%4294967296),.int .u32 V.v0,.int .u32 V.v1,.int .u32 V.v2,.int .u32 ((V.v3+p)%4294967296),.int .u32 V.v4,.int .u32 V.v5,.int .u32 V.v6] rfl rfl _ _ HB.o af rfl (aeX _ _ _ _ _ _ _ _) ?_;have lO:=O (show vR (wf.setRow gv #[.int .u32 ((p+q)%4294967296),.int .u32 V.v0,.int .u32 V.v1,.int .u32 V.v2,.int .u32 ((V.v3+p)%4294967296),.int .u32 V.v4,.int .u32 V.v5,.int .u32 V.v6]) gv (U9 V p q)from a_ _ _ _ _ _ _ HB.o);have HH5:=O (show vR (wf.setRow gv #[.int .u32 ((p+q)%4294967296),.int .u32 V.v0,.int .u32 V.v1,.int .u32 V.v2,.int .u32 ((V.v3+p)%4294967296),.int .u32 V.v4,.int .u32 V.v5,.int .u32 V.v6]) w.heap.size H from(xa ab _).trans HH4.o);have apf:=O (show qT (wf.setRow gv #[.int .u32 ((p+q)%4294967296),.int .u32 V.v0,.int .u32 V.v1,.int .u32 V.v2,.int .u32 ((V.v3+p)%4294967296),.int .u32 V.v4,.int .u32 V.v5,.int .u32 V.v6]) wo.heap.size l from(xa ab _).trans ape.o);have Yk:=O (show Fr aS w (wf.setRow gv #[.int .u32 ((p+q)%4294967296),.int .u32 V.v0,.int .u32 V.v1,.int .u32 V.v2,.int .u32 ((V.v3+p)%4294967296),.int .u32 V.v4,.int .u32 V.v5,.int .u32 V.v6])from Wp aaF ab _);clear aaF c0 c1 c2 c3 c4 c5 c6 c7;generalize wf.setRow gv #[.int .u32 ((p+q)%4294967296),.int .u32 V.v0,.int .u32 V.v1,.int .u32 V.v2,.int .u32 ((V.v3+p)%4294967296),.int .u32 V.v4,.int .u32 V.v5,.int .u32 V.v6]=wg at *))
       go_wp2;go_roundw
       case rel=>exact⟨k+1,ab,bg,by rw[HS1.o,HP2.o,YG.o];exact lO.o,HH5.o,apf.o,Yk.o⟩
       case measure=>simp[intOf];omega
      ·have U6:k=64:=ab;rw[show((k:Nat):Int)=64 from ab];subst U6;clear hww;generalize tr 64=V at *
       have hvz:vh wi gv V.list:=hv;have hhz:vh wi w.heap.size (Jl H.list V.list 0):=hh;have HVZ:=O hvz;have HHZ:=O hhz;clear hv hh hvz hhz;go_wp2;go_loopw[156] (ao7 H V w.heap.size gv w) (fun i _=>8-(intOf i).toNat)
       case atStart=>exact⟨0,ab,rfl,HHZ.o,HVZ.o,qR⟩
       case round =>
        clear HVZ HHZ qR;obtain⟨k,hk,rfl,hz,hvz,oI⟩:=hrel;generalize wr=wx at *
        have hL1:H.list.length=8:=rfl;have hL2:V.list.length=8:=rfl;by_cases Ld:k<8
        ·have pE:(k:Int)<8:=ab;have c0:=hz.cell (j:=k) (by rw[Mg];omega);rw[Mh _ _ k k (ay _)]at c0;have c1:=hvz.cell (j:=k) ab;have f0:=hz.free k;have lO:=O (show vh (wx.drew.setCell ⟨w.heap.size,k,none⟩ (.int .u32 ((H.list.getD k 0+V.list.getD k 0)%4294967296))) w.heap.size (Jl H.list V.list (k+1))from(show vh wx.drew w.heap.size (Jl H.list V.list k)from hz).set k _)
         have HVZ:=O (show vh (wx.drew.setCell ⟨w.heap.size,k,none⟩ (.int .u32 ((H.list.getD k 0+V.list.getD k 0)%4294967296))) gv V.list from by
          unfold vh;rw[Below.heap_setCell _ _ _ _ (show gv≠w.heap.size from ab)];exact hvz)
         have qD:=O (oI.drew);generalize H.list.getD k 0=x0 at *
         generalize V.list.getD k 0=x1 at *
         clear hz hvz oI;go_wp2;refine wp_region_still_tail 8 af af ?_;simp only[List.take_succ_cons,List.take_zero,List.drop_succ_cons,eI]
         iterate 8 still_step
         refine wpStill_nil ?_;change wpList _ _ _ _ _ wx.drew;have c2:wx.drew.cell? ⟨w.heap.size,k,none⟩=some (.int .u32 x0):=c0;have f2:wx.drew.frozen? ⟨w.heap.size,k,none⟩=false:=f0;clear c0 c1 f0;generalize wx.drew=wy at *
         go_wp2_with fail
         go_wp2;go_roundw
         case rel=>exact⟨k+1,ab,bg,by first|exact lO.o|(rw[EI];exact lO.o),by first|exact HVZ.o|(rw[EI];exact HVZ.o),qD.o.gN (p:=⟨w.heap.size,k,none⟩) (ay _) _⟩
         case measure=>simp[intOf];omega
        ·have hk8:k=8:=ab;subst hk8;have ZF:vR wx w.heap.size (Qp H V):=hz;have apg:=O ZF;have anN:(64:Int)<=(X.size:Int):=ab;clear hz hvz ZF;go_wp2;refine⟨⟨n+1,ab,?_,?_,oI⟩,?_⟩
         ·rw[qt.o];rfl
         ·rw[qm.o,HSB.o];exact apg.o
         ·show(X.extract 64 X.size).size<X.size;rw[jL];omega
  ·have C7:64*n=T.size:=ab;have he:(T.extract (64*n) T.size)=⟨#[]⟩:=by apply Go.WideShapes.bytes_inj;rw[kK,cV bH]
   rw[he];have U7:=O (show Bn T.data.toList (T.size/64)=Bn T.data.toList n by rw[<-C7];congr 1;omega);have Bm:=aaE T.data.toList n;generalize Bn T.data.toList n=H at *
   have hz:vh wo w.heap.size H.list:=hm;have TX:=O (Cd w.heap.size H.list false wo (by show 8<=8;omega) (bq hm) (fun j x hj=>by
    have hl:j<H.list.length:=(List.getElem?_eq_some_iff.1 hj).1;rw[hz.cell hl,List.getD_eq_getElem?_getD,hj];rfl) Bm)
   clear hm Bm hz;go_wp2_with fail
   refine TX.o.mono ?_;rintro e w5⟨rfl,lN⟩;go_wp2;go_ret;exact⟨by rw[DY.o,U7.o];rfl,cP.trans lN⟩
theorem Wq(w:World)(hs:tP w):tQ 3 w:=by
 intro v ss W hW hv hn hlen;have hT:=O (hs.fr hW);clear hs;have HJ:=O (Lp v ss W hv hn hlen);clear hv;have hz:(⟨(kX ss).toArray⟩:aj).size<4398046511104:=by show(kX ss).toArray.size<_;simp;omega
 have HB:=O (show kL (decide ((3:Int)=3)) ss=⟨(Ln (kX ss)).toArray⟩from rfl);generalize kX ss=tx at *
 clear hW;go_enter func159,ntmps159;go_wp2_with fail
 refine HJ.o.mono ?_;rintro e u1⟨rfl,dk⟩;go_wp2_with fail
 refine(OH ⟨tx.toArray⟩ u1 hz (hT.o.fr dk)).mono ?_;rintro e u2⟨rfl,dE⟩;go_wp2;go_ret;exact⟨(ar (fun b=>Ending.returned (.string b)) HB.o).symm,dk.trans dE⟩
theorem Wr(fV:Int)(w:World)(ht:tM w)(hs:tP w):tQ fV w:=by
 by_cases h:fV=3
 ·subst h;exact Wq w hs
 ·exact ZM fV h w ht
structure xG (w:World):Prop where
 db:ow w 9 .u8 Rz
 md:tM w
 sh:tP w
theorem xG.fr(h:xG w)(hf:Fr aS w w'):xG w':=⟨h.db.fr hf,h.md.fr hf,h.sh.fr hf⟩
def aj2(u:Except Nat (aQ bE)):Value:=match u with| .ok _=>.nilIface| .error n=>.iface 105 (.int .i64 n)
theorem rz.one{base:Nat}{b:Nat}{gv wv:Value}{ws:List (bK bE)}{u:List (aQ bE)×Except Nat (aQ bE)}(h:rz base w b gv wv ws u e w') :
  kM base w b gv wv u.1 ws w'/\∃X:bT,e=.returned (.tuple #[.agg X,aj2 u.2])/\X.size=16/\X.all (·.oneCell')=true/\∀x,u.2=.ok x->∃r:aQ Value,X=r.cells.toArray/\r.Reads (dx base w') x:=by
 obtain⟨h1,h2⟩:=h;refine⟨h1,?_⟩;cases hu:u.2 with
 |error n=>rw[hu]at h2;exact⟨eY,h2,rfl,dw,fun x hx=>by cases hx⟩
 |ok g =>
  rw[hu]at h2;obtain⟨r,e1,e2,e3⟩:=h2;exact⟨r.cells.toArray,e1,rfl,b_ e3,fun x hx=>by cases hx;exact⟨r,rfl,e2⟩⟩
theorem EL{X:bT}(h:X.size=16):(prog.info? 114).map (·.size)=some X.size:=by rw[h];kernel_rfl
def AtJ(base:Nat)(w2:World)(B off:Nat)(cs:aZ)(v:cY)(p:dR)(x:Except Nat (aQ bE))(n:Nat)(X:bT)(W:World):Prop :=
 tD base w2 B off cs v p n X 114 W/\∀g,x=.ok g->∃r:aQ Value,X=r.cells.toArray/\r.Reads (dx base W) g
theorem OP{g:aQ bE}(h1:g.a.scheme=1)(h:qW g o=none)(hu:g.user.size<=100000)(hp:g.pass.size<=100000) :
  aB 49 #[.agg #[.string g.user,.string g.pass]] U fun e w'=>(∃t v,e=.returned (.tuple #[.string ⟨#[]⟩,.iface t v]))/\Fr aS U w':=by
 refine(GM g.user g.pass U hu hp).mono ?_;rintro e u⟨hb,hf⟩;refine⟨?_,hf⟩;unfold qW at h;rw[az h1]at h;unfold mZ at hb;by_cases hc:0<=Lib.indexByte g.user.data.toList 58
 ·rw[az hc]at hb;exact⟨_,_,hb⟩
 ·rw[aq hc]at hb h;cases hq:(lQ g.user&&lQ g.pass)
  ·rw[hq]at hb;exact⟨_,_,hb⟩
  ·rw[hq]at h;cases h
theorem OQ{g:aQ bE}{s:aj}(h1:g.a.scheme=1)(h:qW g o=some s)(hu:g.user.size<=100000)(hp:g.pass.size<=100000) :
  aB 49 #[.agg #[.string g.user,.string g.pass]] U fun e w'=>e=.returned (.tuple #[.string s,.nilIface])/\Fr aS U w':=by
 refine(GM g.user g.pass U hu hp).mono ?_;rintro e u⟨hb,hf⟩;refine⟨?_,hf⟩;unfold qW at h;rw[az h1]at h;unfold mZ at hb;by_cases hc:0<=Lib.indexByte g.user.data.toList 58
 ·rw[az hc]at h;cases h
 ·rw[aq hc]at hb h;cases hq:(lQ g.user&&lQ g.pass)
  ·rw[hq]at h;cases h
  ·rw[hq]at hb h;cases h;exact hb
section
variable {g : aQ bE} {o : iE} {s : ByteArray} {U : World} {dom : Value}
theorem Wz(ef:dom.oneCell'=true)(hg:V8 g)(hm:(jT o.method).size<=5000)(ht:(nQ o.path o.query).size<=5000)(hb:o.body.size<=5000)(hc:o.bS.size<=5000)(hT:xG U) :
  aB 50 #[.agg #[.int .i64 g.a.scheme,.string g.a.aM,.string g.a.bu,.string g.a.cz,.bool g.a.cD,.string g.a.eJ,.bool g.a.cR,dom],.agg #[.string g.user,.string g.pass],.string (jT o.method),.string (nQ o.path o.query),.string o.body,.string o.bS,.int .i64 g.count] U (pk g.a.scheme g.a.cz (o.dig g) g.count U):=by
 obtain⟨⟨a1,a2,a3,a4⟩,a5,a6⟩:=hg;exact Sw g.a.scheme g.a.aM g.a.bu g.a.cz g.a.eJ g.user g.pass (jT o.method) (nQ o.path o.query) o.body o.bS g.a.cD g.a.cR dom g.count U ef ab ab ab a5 a6 hm ht hb hc hT.db (Wr _ _ hT.md hT.sh)
theorem WA(h1:¬g.a.scheme=1)(h:qW g o=none)(hd:pk g.a.scheme g.a.cz (o.dig g) g.count U e w'):(∃t v,e=.returned (.tuple #[.string ⟨#[]⟩,.iface t v]))/\Fr aS U w':=by
 unfold qW at h;rw[aq h1]at h;obtain⟨hf,hd⟩:=hd;refine⟨?_,hf⟩;rcases hd with ⟨_,hd⟩|⟨hg,_⟩
 ·exact hd
 ·split at h
  ·cases h
  ·rename_i hn;exact absurd hg hn
theorem WB(h1:¬g.a.scheme=1)(h:qW g o=some s)(hd:pk g.a.scheme g.a.cz (o.dig g) g.count U e w'):e=.returned (.tuple #[.string s,.nilIface])/\Fr aS U w':=by
 unfold qW at h;rw[aq h1]at h;obtain⟨hf,hd⟩:=hd;refine⟨?_,hf⟩;rcases hd with ⟨hg,_⟩|⟨hg,hd⟩
 ·split at h
  ·rename_i hc;exact absurd hc hg
  ·cases h
 ·split at h
  ·cases h;exact hd
  ·rename_i hn;exact absurd hg hn
end
theorem SF(s:aj)(h:s.size<=5000):(jT s).size<=5000:=by
 rcases zC iQ s with ⟨h1,_⟩|h1
 ·have:=(show∀x∈iQ,x.size<=5000 from ag) _ h1;exact this
 ·show(nF iQ s).size<=5000;rw[h1];exact h
theorem SH(p q:aj)(h:p.size<=2000)(h2:q.size<=2000):(nQ p q).size<=5000:=by
 unfold nQ;split
 ·omega
 ·rw[jo,jo,show(ByteArray.mk #[63]).size=1 from rfl];omega
theorem OS(base:Nat)(w:World)(B off:Nat)(cs:aZ)(v:cY)(p:dR)(o:jO)(hs:List ig)(h:eV base w v p)(ha:gY w B cs off v)(oM:base<=B)(hf:gM w o hs)(hk:ny p)(pz:si p)(a:World)(tR:xG a)(sK:a.heap.size<=base)(tS:Fr aS a w) :
  aB 30 #[.pointer (some ⟨B,off,none⟩),.agg o.cells.toArray] w (eK base w B cs off v (iA p (o.dW hs))):=by
 have vd:B<w.heap.size:=bq ha.eN;have Ho:¬v.kn B:=h.fq ha.eN ag;obtain⟨ah,ch,g_⟩:=hf.h_;obtain⟨w2,eG⟩:∃w2,w2=(w.alloc (.cells o.cells.toArray 41)).alloc (.cells bU 30):=⟨_,rfl⟩;have dE:Fr aS w w2:=by rw[eG];exact((ae aS w).alloc _).alloc _
 have k1:w2.heap[w.heap.size]?=some (.cells o.cells.toArray 41 (0,0)):=by rw[eG];exact((ae aS _).alloc _).keep (aC _ _) id
 have k2:w2.heap[w.heap.size+1]?=some (.cells bU 30 (0,0)):=by
  have h:=aC (w.alloc (.cells o.cells.toArray 41)) (.cells bU 30);rw[bP]at h;rw[eG];exact h
 have xI:w2.heap.size=w.heap.size+2:=by rw[eG];simp
 have WC:=O (show∀U,Fr aS w2 U->U.heap[w.heap.size]?=some (.cells o.cells.toArray 41 (0,0))from fun U hU=>hU.keep k1 id);have Da:=O Ho;have HH:=O h;have HA:=O ha;have HF:=O hf;have l_:=O g_;have HK:=O hk;have fU:=O dE;have mV:=O k1;have ra:=O k2;have py:=O (show base<=w.heap.size from ab);have xL:=O oM;have pn:=O vd;have Sv:=O eG
 obtain⟨a0,a1,a2,a3,a4,a5,a6,a7,a8,a9,jP,jQ,a12,jN,jR,jy,j_,ka,ke,ko,a20,a21⟩:=eA k1 g_;rw[eG]at a0 a1 a2 a3 a4 a5 a6 a7 a8 a9 jP jQ a12 jN jR jy j_ ka ke ko a20 a21;rw[eF g_]at eG a0 a1 a2 a3 a4 a5 a6 a7 a8 a9 jP jQ a12 jN jR jy j_ ka ke ko a20 a21 ⊢;unfold bU at eG a0 a1 a2 a3 a4 a5 a6 a7 a8 a9 jP jQ a12 jN jR jy j_ ka ke ko a20 a21;have nP:=O eG;clear eG g_ dE k1 k2 h ha hf Ho hk
 obtain⟨x3,ya⟩:∃x3,x3=w2.alloc (.cells #[.int .i64 o.aN.part,.bool o.aN.dt.aG,.string o.aN.dt.host,.int .i64 o.aN.dt.port,.bool o.aN.o.aG,.string o.aN.o.host,.int .i64 o.aN.o.port,.string o.aN.path,.string o.aN.query,.string o.aN.method,.slice ah hs.length ch,.bool o.aN.f_,.string o.aN.body] 37):=⟨_,rfl⟩;have aaR:Fr aS w2 x3:=by rw[ya];exact(ae _ _).alloc _
 have ZS:x3.heap[w.heap.size+2]?=some (.cells #[.int .i64 o.aN.part,.bool o.aN.dt.aG,.string o.aN.dt.host,.int .i64 o.aN.dt.port,.bool o.aN.o.aG,.string o.aN.o.host,.int .i64 o.aN.o.port,.string o.aN.path,.string o.aN.query,.string o.aN.method,.slice ah hs.length ch,.bool o.aN.f_,.string o.aN.body] 37 (0,0)):=by
  have h:=aC w2 (.cells #[.int .i64 o.aN.part,.bool o.aN.dt.aG,.string o.aN.dt.host,.int .i64 o.aN.dt.port,.bool o.aN.o.aG,.string o.aN.o.host,.int .i64 o.aN.o.port,.string o.aN.path,.string o.aN.query,.string o.aN.method,.slice ah hs.length ch,.bool o.aN.f_,.string o.aN.body] 37);rw[xI]at h;rw[ya];exact h
 have OT:x3.heap.size=w.heap.size+3:=by rw[ya];simp;omega
 have il:=O (fU.o.trans aaR);have HQ3:=O ZS;have T_:=O ya;have H3:=O (HH.o.dm il.o);have A3:=O (HA.o.dm il.o);have KO:=O (aaR.keep mV.o id);have KR:=O (aaR.keep ra.o id);have SI:=O (tS.trans il.o);have SJ:=O tR;have HSM:=O pz;have awy:=O OT;have SK:=HK.o.sZ;clear ya aaR ZS tR pz tS;go_enter func30,ntmps30
 have HC:=O (show∀U,Fr (dy v.b v.gv v.wv) x3 U->(U.cell? ⟨B,off,none⟩=some (.pointer (some ⟨v.b,0,none⟩))/\U.cell? ⟨w.heap.size+2,4,none⟩=some (.bool o.aN.o.aG)/\U.cell? ⟨w.heap.size+2,5,none⟩=some (.string o.aN.o.host)/\U.cell? ⟨w.heap.size+2,6,none⟩=some (.int .i64 o.aN.o.port)/\U.cell? ⟨w.heap.size+2,7,none⟩=some (.string o.aN.path)/\U.cell? ⟨w.heap.size,14,none⟩=some (.bool o.proxy))from fun U hU=>by
  have j1:=A3.o.fr hU (fun hb=>Da.o (Or.inl hb));have j2:=hU.keep HQ3.o (fun hb=>H3.o.fq HQ3.o Hh (Or.inl hb));have j3:=hU.keep KO.o (fun hb=>H3.o.fq KO.o jw (Or.inl hb));obtain⟨a0,a1,a2,a3,a4,a5,a6,a7,a8,a9,jP,jQ,a12,jN,jR,jy,j_,ka,ke,ko,a20,a21⟩:=eA j3 l_.o;refine⟨j1.cell0,?_,?_,?_,?_,jR⟩<;>simp[World.cell?,j2])
 have HUS:=O (show∀U,Fr aS x3 U->aB 48 #[.pointer (some ⟨v.b,0,none⟩),.agg #[.bool o.aN.o.aG,.string o.aN.o.host,.int .i64 o.aN.o.port],.bool o.proxy,.string o.aN.path] U (rz base U v.b v.gv v.wv p.waits (vV p.bG o.aN.o o.proxy o.aN.path))from fun U hU=>Z4 base U v.b v.gv v.wv p.bG p.waits o.aN.o o.proxy o.aN.path (H3.o.dm hU).oK ab HK.o.nat)
 obtain⟨us,hus⟩:∃us,us=vV p.bG o.aN.o o.proxy o.aN.path:=⟨_,rfl⟩;rw[<-hus]at HUS;have HUE:=O hus;obtain⟨ev,J9⟩:∃ev,ev=aj2 us.2:=⟨_,rfl⟩;have T':=O J9;have aj4:=O (show base<=x3.heap.size from aE py.o il.o.size);have aj5:=O (show B<x3.heap.size from cK pn.o il.o.size);have sN:=nP.o;clear hus J9 xI OT;go_wp2_with fail
 rw[<-sN, <-T_.o];clear a0 a1 a2 a3 a4 a5 a6 a7 a8 a9 jP jQ a12 jN jR jy j_ ka ke ko a20 a21 sN;apply Wk (P:=AtJ base x3 B off cs v {p with bG:=us.1} us.2)
 ·intro hJ;have HJ:=O hJ;clear hJ
  refine wp_region_held_drew (S:=(fun U=>U.cell? ⟨B,off,none⟩=some (.pointer (some ⟨v.b,0,none⟩))/\U.cell? ⟨w.heap.size+2,4,none⟩=some (.bool o.aN.o.aG)/\U.cell? ⟨w.heap.size+2,5,none⟩=some (.string o.aN.o.host)/\U.cell? ⟨w.heap.size+2,6,none⟩=some (.int .i64 o.aN.o.port)/\U.cell? ⟨w.heap.size+2,7,none⟩=some (.string o.aN.path)/\U.cell? ⟨w.heap.size,14,none⟩=some (.bool o.proxy))) af (HC.o _ (aA (ae _ _))) ?_
  intro zl;refine aU 0 12 rfl ?_;refine aU 1 13 rfl ?_;refine aU 2 14 rfl ?_;refine aU 3 15 rfl ?_;refine aU 4 16 rfl ?_;refine aU 5 17 rfl ?_;refine aU 6 18 rfl ?_;refine aU 7 19 rfl ?_;refine aU 8 20 rfl ?_;refine aU 9 21 rfl ?_;refine aU 10 22 rfl ?_;refine aU 11 23 rfl ?_;refine EM 12 16 rfl rfl (fun K hK=>?_) fun K hK=>?_
  ·go_simp;refine(HUS.o _ (aA (ae _ _))).mono ?_;rintro e u3 Mk;obtain⟨tO,X,rfl,Hp,Ml,EC⟩:=rz.one Mk;rw[<-T'.o];have OU:=O tO;have HX:=O (And.intro Hp (And.intro Ml EC));have xb:Fr (dy v.b v.gv v.wv) x3 u3:=(aA (ae _ _)).trans (by obtain⟨_,_,_,h,_⟩:=tO;exact h);have BG:=O xb;clear Mk tO Hp Ml EC xb;refine hK.out _ _ (HC.o _ BG.o) ?_;intro xF;clear hK zl K
   try simp only[Act.put,sA,sB,sC]
   refine aU 13 11 rfl ?_;refine aU 14 25 rfl ?_;refine aU 15 26 rfl ?_;refine eR 16 rfl fun K hK=>?_;go_simp;obtain⟨n,hne⟩:∃n,n=u3.heap.size:=⟨_,rfl⟩;obtain⟨w4,qQ⟩:∃w4,w4=u3.alloc (.cells eY 114):=⟨_,rfl⟩;have WD:w4.heap[n]?=some (.cells eY 114 (0,0)):=by rw[qQ,hne];exact aC _ _
   have kS:Fr (dy v.b v.gv v.wv) x3 w4:=by rw[qQ];exact BG.o.alloc _
   have HZ4:=O WD;have j6:=O kS;have OG:=O qQ;have CU:=O hne;rw[<-qQ, <-hne];clear qQ hne WD kS;refine hK.out _ _ (HC.o _ j6.o) ?_;intro Aw;clear hK xF K
   try simp only[Act.put,sA,sB,sC]
   refine eR 17 rfl fun K hK=>?_;refine j9 rfl 114 (.tmp 6) (.tmp 25) rfl n X rfl rfl 114 eY HZ4.o (EL HX.o.1) HX.o.1.symm HX.o.2.1 ?_;obtain⟨W,hW⟩:∃W,W=w4.setRow n X:=⟨_,rfl⟩;have Cp:Fr (dy v.b v.gv v.wv) x3 W:=by rw[hW];exact je j6.o (by rw[CU.o];exact BG.o.size) _
   have hP:=tD.after (z:=eY) (di (aA (ae aS x3)) (eW (H3.o.dm (aA (ae aS x3))) (A3.o.dm (aA (ae aS x3))) Da.o OU.o)) aj4.o aj5.o (t:=114) ag X;rw[<-OG.o, <-CU.o, <-hW]at hP;rw[<-hW];refine hK.out _ _ (HC.o _ Cp) ?_;intro F0;clear hK Aw K
   try simp only[Act.put,sA,sB,sC]
   refine aU 18 7 rfl ?_;clear F0;refine wpAnyH_done af ?_ _;exact HJ.o n X W ⟨hP.1,fun g hg=>by
    obtain⟨r,e1,e2⟩:=HX.o.2.2 g hg;exact⟨r,e1,e2.mono (fun v l h=>hP.2 v l h)⟩⟩
  ·go_simp;obtain⟨n,hne⟩:∃n,n=x3.heap.size:=⟨_,rfl⟩;obtain⟨w4,qQ⟩:∃w4,w4=(x3.alloc (.cells eY 114)).drew:=⟨_,rfl⟩;have WD:w4.heap[n]?=some (.cells eY 114 (0,0)):=by rw[qQ,hne];exact aC x3 _
   have kS:Fr aS x3 w4:=by rw[qQ];exact((ae _ _).alloc _).drew
   have HZ4:=O WD;have j6:=O kS;have CU:=O (show x3.heap.size<=n from ab);rw[<-qQ, <-hne];clear qQ hne WD kS;refine hK.out _ _ (HC.o _ (j6.o.mono (fun _ _ h=>absurd h id))) ?_;intro xF;clear hK zl K
   try simp only[Act.put,sA,sB,sC]
   refine eR 12 rfl fun K hK=>?_;go_simp;refine(HUS.o _ j6.o).mono ?_;rintro e u3 Mk;obtain⟨tO,X,rfl,Hp,Ml,EC⟩:=rz.one Mk;rw[<-T'.o];have OU:=O tO;have HX:=O (And.intro Hp (And.intro Ml EC));have xb:Fr (dy v.b v.gv v.wv) x3 u3:=(j6.o.mono (fun _ _ h=>absurd h id)).trans (by obtain⟨_,_,_,h,_⟩:=tO;exact h)
   have UO:u3.heap[n]?=some (.cells eY 114 (0,0)):=(show Fr (dy v.b v.gv v.wv) w4 u3 by obtain⟨_,_,_,h,_⟩:=tO;exact h).keep HZ4.o (fun hb=>by have:=H3.o.jq (Or.inl hb);have:=CU.o;omega);have BG:=O xb;have HZ3:=O UO;clear Mk tO Hp Ml EC xb UO;refine hK.out _ _ (HC.o _ BG.o) ?_;intro Aw;clear hK xF K
   try simp only[Act.put,sA,sB,sC]
   refine aU 13 11 rfl ?_;refine aU 14 25 rfl ?_;refine aU 15 26 rfl ?_;refine eR 17 rfl fun K hK=>?_;refine j9 rfl 114 (.tmp 6) (.tmp 25) rfl n X rfl rfl 114 eY HZ3.o (EL HX.o.1) HX.o.1.symm HX.o.2.1 ?_;obtain⟨W,hW⟩:∃W,W=u3.setRow n X:=⟨_,rfl⟩;have Cp:Fr (dy v.b v.gv v.wv) x3 W:=by rw[hW];exact je BG.o CU.o _
   have hP:=tD.before H3.o j6.o CU.o HZ4.o (eW (H3.o.dm j6.o) (A3.o.dm j6.o) Da.o OU.o) aj4.o aj5.o ag X;rw[<-hW]at hP;rw[<-hW];refine hK.out _ _ (HC.o _ Cp) ?_;intro F0;clear hK Aw K
   try simp only[Act.put,sA,sB,sC]
   refine aU 18 7 rfl ?_;clear F0;refine wpAnyH_done af ?_ _;exact HJ.o n X W ⟨hP.1,fun g hg=>by
    obtain⟨r,e1,e2⟩:=HX.o.2.2 g hg;exact⟨r,e1,e2.mono (fun v l h=>hP.2 v l h)⟩⟩
 ·intro n X W hj;obtain⟨⟨v1,i1,f1,Co,WE,hX,WG,Wl⟩,Hn⟩:=hj;have aa1:=iy A3.o WE;have o1:=eM H3.o f1 KO.o jw ab;have r1:=eM H3.o f1 KR.o dM ab;have q1:=eM H3.o f1 HQ3.o Hh ab;have haW:Fr aS a W:=SI.o.step f1 (fun k hk hp=>by
   rcases hp with rfl|hp
   ·omega
   ·have:=H3.o.nJ hp;omega)
  have HTW:=O (SJ.o.fr haW);have I1:=O i1;have F1:=O f1;have FT1:=O Co;have Mm:=O aa1;have O1:=O o1;have R1:=O r1;have Q1:=O q1;have HXB:=O hX;have HNF:=O WG;have HNA:=O Wl;clear i1 f1 Co aa1 o1 r1 q1 WE hX WG Wl HUS HC haW;cases GX:us.2 with
  |error k =>
   have hef:ev=.iface 105 (.int .i64 k):=by rw[T'.o,GX];rfl
   have HR:=O (show iA p (o.dW hs)=({p with bG:=us.1},rep 2)by
    unfold iA;rw[show vV p.bG (o.dW hs).o (o.dW hs).proxy (o.dW hs).path=(us.1,.error k)from by rw[<-GX];exact HUE.o.symm])
   have HP:=O (show dn base w B cs off v {p with bG:=us.1} W from di il.o ⟨v1,I1.o,F1.o,FT1.o,Mm.o.eN⟩);rw[hef];clear Hn GX T' HUE hef;go_wp2_with (first|((with_reducible refine cZ 30 ?_);refine aF rfl 30 (.tmp 4) (.tmp 29) rfl (w.heap.size+1) #[.int .i64 2,.string ⟨#[]⟩,.int .i64 0] rfl rfl _ bU R1.o (bf _ rfl) rfl cC ?_)|fail)
   refine aW (bw bD _ _ (w.heap.size+1) 30 #[.int .i64 2,.string ⟨#[]⟩,.int .i64 0] (0,0) _ rfl (a_ _ (w.heap.size+1) _ _ _ _ R1.o) underlying30 rfl (bf _ rfl)) rfl ?_;unfold eK;rw[HR.o];exact⟨rfl,dC HP.o py.o pn.o (bX _) R1.o eQ ag _⟩
  |ok g =>
   have hef:ev=.nilIface:=by rw[T'.o,GX];rfl
   obtain⟨r,Yz,hr⟩:=Hn g GX;have hgs:V8 g:=(L' (P:=V8) (fun g h=>h) HSM.o.bG).2 g (by rw[<-HUE.o];exact GX);have WH:=O (show iA p (o.dW hs)=(match qW g (o.dW hs)with|none=>({p with bG:=vC us.1 g.o g.proxy g.a.aM},rep 2)|some s=>({p with bG:=us.1},⟨1,s,0⟩))by
    unfold iA;rw[show vV p.bG (o.dW hs).o (o.dW hs).proxy (o.dW hs).path=(us.1,.ok g)from by rw[<-GX];exact HUE.o.symm];rfl)
   obtain⟨q1,q2,q3,q4,q5,q6,q7⟩:=hr;obtain⟨e1,e2,e3,e4,e5,e6,e7,Bu⟩:=q5;obtain⟨ad,cd,yc⟩:=Bu.rd.form;obtain⟨ap,cp,NP⟩:=q7.rd.form
   have xY:X= #[.bool g.o.aG,.string g.o.host,.int .i64 g.o.port,.bool g.proxy,.string g.user,.string g.pass,.int .i64 g.a.scheme,.string g.a.aM,.string g.a.bu,.string g.a.cz,.bool g.a.cD,.string g.a.eJ,.bool g.a.cR,.slice ad g.a.dom.length cd,.int .i64 g.count,.slice ap g.paths.length cp]:=by
    rw[Yz];unfold aQ.cells;rw[q1,q2,q3,q4,q6,e1,e2,e3,e4,e5,e6,e7,yc,NP]
   rw[xY]at HXB;have SL:=HXB.o;have hqn:=Q1.o;have hon:=O1.o;have HGS:=O hgs;have ZU:=O hgs.2.1;have ZP:=O hgs.2.2;have T7:=HF.o;rw[hef];clear Hn GX T' HUE hef q1 q2 q3 q4 q6 q7 e1 e2 e3 e4 e5 e6 e7 Bu yc NP xY Yz hgs;have z4:W.cell? ⟨n,4,none⟩=some (.string g.user):=by simp[World.cell?,SL]
   have z5:W.cell? ⟨n,5,none⟩=some (.string g.pass):=by simp[World.cell?,SL]
   have z6:W.cell? ⟨n,6,none⟩=some (.int .i64 g.a.scheme):=by simp[World.cell?,SL]
   by_cases hsc:g.a.scheme=1
   ·have t6':(g.a.scheme==1)=true:=by rw[hsc];rfl
    cases zi:qW g (o.dW hs)with
    |none =>
     have HR:=O (show iA p (o.dW hs)=({p with bG:=vC us.1 g.o g.proxy g.a.aM},rep 2)by rw[WH.o,zi]);have HBA:=O (show∀U,aB 49 #[.agg #[.string g.user,.string g.pass]] U _ from fun U=>OP hsc zi (aE ZU.o ag) (aE ZP.o ag));have YH:=O hsc;rw[hsc]at z6;clear zi WH hsc SL hqn hon T7;go_wp2_with fail
     refine(HBA.o _).mono ?_;rintro e u5⟨⟨et,evv,rfl⟩,lN⟩;have HU:=O (lN)
     have UX:=O (show∀U,Fr (dy v1.b v1.gv v1.wv) u5 U->(U.cell? ⟨B,off,none⟩=some (.pointer (some ⟨v1.b,0,none⟩))/\U.cell? ⟨n,0,none⟩=some (.bool g.o.aG)/\U.cell? ⟨n,1,none⟩=some (.string g.o.host)/\U.cell? ⟨n,2,none⟩=some (.int .i64 g.o.port)/\U.cell? ⟨n,3,none⟩=some (.bool g.proxy)/\U.cell? ⟨n,7,none⟩=some (.string g.a.aM))from fun U hU=>by
      have j1:=(Mm.o.dm HU.o).fr hU (fun hb=>I1.o.fq Mm.o.eN ag (Or.inl hb));have j2:=hU.keep (HU.o.keep HXB.o id) (fun hb=>HNF.o (Or.inl hb));refine⟨j1.cell0,?_,?_,?_,?_,?_⟩<;>simp[World.cell?,j2])
     have TU:=O (show∀U,Fr aS u5 U->aB 53 #[.pointer (some ⟨v1.b,0,none⟩),.agg #[.bool g.o.aG,.string g.o.host,.int .i64 g.o.port],.bool g.proxy,.string g.a.aM] U (wX base U v1.b v1.gv v1.wv us.1 p.waits (np g.o g.proxy g.a.aM))from fun U hU=>Ad base U v1.b v1.gv v1.wv us.1 p.waits g.o g.proxy g.a.aM ((I1.o.dm HU.o).dm hU).oK);go_wp2_with fail
     go_region_held3 (fun U=>Fr (dy v1.b v1.gv v1.wv) u5 U/\U.cell? ⟨B,off,none⟩=some (.pointer (some ⟨v1.b,0,none⟩))/\U.cell? ⟨n,0,none⟩=some (.bool g.o.aG)/\U.cell? ⟨n,1,none⟩=some (.string g.o.host)/\U.cell? ⟨n,2,none⟩=some (.int .i64 g.o.port)/\U.cell? ⟨n,3,none⟩=some (.bool g.proxy)/\U.cell? ⟨n,7,none⟩=some (.string g.a.aM)) ((refine(fun hU=>⟨hU,UX.o _ hU⟩) ?_;first|exact aA (ae _ _)|assumption))
      ((first
       |(go_at_call 53;refine(TU.o _ (aA (ae _ _))).mono ?_;rintro e u9 ⟨rfl,OV⟩;have WI:Fr (dy v1.b v1.gv v1.wv) u5 u9:=(aA (ae _ _)).trans (by obtain⟨_,_,_,h,_⟩:=OV;exact h))))
     have WJ:=eW ((I1.o.dm HU.o).dm (aA (ae aS u5))) ((Mm.o.dm HU.o).dm (aA (ae aS u5))) (I1.o.fq Mm.o.eN ag) OV;have HP:=O (show dn base w B cs off v {p with bG:=vC us.1 g.o g.proxy g.a.aM} u9 from di il.o (gP F1.o FT1.o (di HU.o (di (aA (ae aS u5)) WJ))));have r9:=O (eM (B:=B) (I1.o.dm HU.o) (WI.mono (fun k _ hk=>Or.inr (Or.inl hk))) (HU.o.keep R1.o id) dM ab);clear WJ OV WI UX TU
     go_wp2_with (first|((with_reducible refine cZ 30 ?_);refine aF rfl 30 (.tmp 4) (.tmp 74) rfl (w.heap.size+1) #[.int .i64 2,.string ⟨#[]⟩,.int .i64 0] rfl rfl _ bU r9.o (bf _ rfl) rfl cC ?_)|fail)
     refine aW (bw bD _ _ (w.heap.size+1) 30 #[.int .i64 2,.string ⟨#[]⟩,.int .i64 0] (0,0) _ rfl (a_ _ (w.heap.size+1) _ _ _ _ r9.o) underlying30 rfl (bf _ rfl)) rfl ?_;unfold eK;rw[HR.o];exact⟨rfl,dC HP.o py.o pn.o (bX _) r9.o eQ ag _⟩
    |some s =>
     have HR:=O (show iA p (o.dW hs)=({p with bG:=us.1},⟨1,s,0⟩)by rw[WH.o,zi]);have HBA:=O (show∀U,aB 49 #[.agg #[.string g.user,.string g.pass]] U _ from fun U=>OQ hsc zi (aE ZU.o ag) (aE ZP.o ag));have YH:=O hsc;rw[hsc]at z6;clear zi WH hsc SL hqn hon T7;go_wp2_with fail
     refine(HBA.o _).mono ?_;rintro e u5⟨rfl,lN⟩;have HU:=O (lN);have HP:=O (show dn base w B cs off v {p with bG:=us.1} u5 from di il.o (dn.then ⟨v1,I1.o,F1.o,FT1.o,Mm.o.eN⟩ HU.o));have r9:=O (HU.o.keep R1.o id);go_wp2_with (first|((with_reducible refine cZ 30 ?_);refine aF rfl 30 (.tmp 4) (.tmp 76) rfl (w.heap.size+1) #[.int .i64 1,.string s,.int .i64 0] rfl rfl _ bU r9.o (bf _ rfl) rfl cC ?_)|fail)
     refine aW (bw bD _ _ (w.heap.size+1) 30 #[.int .i64 1,.string s,.int .i64 0] (0,0) _ rfl (a_ _ (w.heap.size+1) _ _ _ _ r9.o) underlying30 rfl (bf _ rfl)) rfl ?_;unfold eK;rw[HR.o];exact⟨rfl,dC HP.o py.o pn.o (bX _) r9.o eQ ag _⟩
   ·have t6':(g.a.scheme==1)=false:=aO.2 hsc
    have HC8:=O (show∀U,Fr aS W U->(U.cell? ⟨n,4,none⟩=some (.string g.user)/\U.cell? ⟨n,5,none⟩=some (.string g.pass)/\U.cell? ⟨n,6,none⟩=some (.int .i64 g.a.scheme)/\U.cell? ⟨n,7,none⟩=some (.string g.a.aM)/\U.cell? ⟨n,8,none⟩=some (.string g.a.bu)/\U.cell? ⟨n,9,none⟩=some (.string g.a.cz)/\U.cell? ⟨n,10,none⟩=some (.bool g.a.cD)/\U.cell? ⟨n,11,none⟩=some (.string g.a.eJ)/\U.cell? ⟨n,12,none⟩=some (.bool g.a.cR)/\U.cell? ⟨n,13,none⟩=some (.slice ad g.a.dom.length cd)/\U.cell? ⟨n,14,none⟩=some (.int .i64 g.count)/\U.cell? ⟨w.heap.size+2,4,none⟩=some (.bool o.aN.o.aG)/\U.cell? ⟨w.heap.size+2,5,none⟩=some (.string o.aN.o.host)/\U.cell? ⟨w.heap.size+2,6,none⟩=some (.int .i64 o.aN.o.port)/\U.cell? ⟨w.heap.size+2,7,none⟩=some (.string o.aN.path)/\U.cell? ⟨w.heap.size+2,8,none⟩=some (.string o.aN.query)/\U.cell? ⟨w.heap.size+2,9,none⟩=some (.string o.aN.method)/\U.cell? ⟨w.heap.size+2,12,none⟩=some (.string o.aN.body)/\U.cell? ⟨w.heap.size,18,none⟩=some (.string o.bS))from fun U hU=>by
     have j2:=hU.keep HXB.o id;have j3:=hU.keep Q1.o id;obtain⟨a0,a1,a2,a3,a4,a5,a6,a7,a8,a9,jP,jQ,a12,jN,jR,jy,j_,ka,ke,ko,a20,a21⟩:=eA (hU.keep O1.o id) l_.o;refine⟨?_,?_,?_,?_,?_,?_,?_,?_,?_,?_,?_,?_,?_,?_,?_,?_,?_,?_,ke⟩<;>simp[World.cell?,j2,j3])
    have HME:=O (show∀U,aB 51 #[.string o.aN.method] U _ from fun U=>yx o.aN.method U (iU HF.o.method ag));have HTG:=O (show∀U,aB 52 #[.agg #[.bool o.aN.o.aG,.string o.aN.o.host,.int .i64 o.aN.o.port,.string o.aN.path,.string o.aN.query]] U _ from fun U=>N9 o.aN.o o.aN.path o.aN.query U (iU HF.o.path ag) (iU HF.o.query ag))
    have AZ:=O (show∀U,Fr aS W U->aB 50 #[.agg #[.int .i64 g.a.scheme,.string g.a.aM,.string g.a.bu,.string g.a.cz,.bool g.a.cD,.string g.a.eJ,.bool g.a.cR,.slice ad g.a.dom.length cd],.agg #[.string g.user,.string g.pass],.string (jT o.aN.method),.string (nQ o.aN.path o.aN.query),.string o.aN.body,.string o.bS,.int .i64 g.count] U (pk g.a.scheme g.a.cz ((o.dW hs).dig g) g.count U)from fun U hU=>Wz (o:=o.dW hs) rfl HGS.o (SF _ HF.o.method) (SH _ _ HF.o.path HF.o.query) HF.o.body HF.o.bS (HTW.o.fr hU))
    cases zi:qW g (o.dW hs)with
    |none =>
     have HR:=O (show iA p (o.dW hs)=({p with bG:=vC us.1 g.o g.proxy g.a.aM},rep 2)by rw[WH.o,zi]);have J2:=O zi;have YH:=O hsc;clear zi WH SL hqn hon T7 hsc;go_wp2_with fail
     go_region_held3 (fun U=>Fr aS W U/\U.cell? ⟨n,4,none⟩=some (.string g.user)/\U.cell? ⟨n,5,none⟩=some (.string g.pass)/\U.cell? ⟨n,6,none⟩=some (.int .i64 g.a.scheme)/\U.cell? ⟨n,7,none⟩=some (.string g.a.aM)/\U.cell? ⟨n,8,none⟩=some (.string g.a.bu)/\U.cell? ⟨n,9,none⟩=some (.string g.a.cz)/\U.cell? ⟨n,10,none⟩=some (.bool g.a.cD)/\U.cell? ⟨n,11,none⟩=some (.string g.a.eJ)/\U.cell? ⟨n,12,none⟩=some (.bool g.a.cR)/\U.cell? ⟨n,13,none⟩=some (.slice ad g.a.dom.length cd)/\U.cell? ⟨n,14,none⟩=some (.int .i64 g.count)/\U.cell? ⟨w.heap.size+2,4,none⟩=some (.bool o.aN.o.aG)/\U.cell? ⟨w.heap.size+2,5,none⟩=some (.string o.aN.o.host)/\U.cell? ⟨w.heap.size+2,6,none⟩=some (.int .i64 o.aN.o.port)/\U.cell? ⟨w.heap.size+2,7,none⟩=some (.string o.aN.path)/\U.cell? ⟨w.heap.size+2,8,none⟩=some (.string o.aN.query)/\U.cell? ⟨w.heap.size+2,9,none⟩=some (.string o.aN.method)/\U.cell? ⟨w.heap.size+2,12,none⟩=some (.string o.aN.body)/\U.cell? ⟨w.heap.size,18,none⟩=some (.string o.bS)) ((refine(fun hU=>⟨hU,HC8.o _ hU⟩) ?_;first|exact aA (ae _ _)|assumption))
      ((first
       |(go_at_call 51;refine(HME.o _).mono ?_;rintro e u5 ⟨rfl,lN⟩;have uz:Fr aS W u5:=(by first|exact WK.trans lN|exact(aA (ae aS W)).trans lN))
       |(go_at_call 52;refine(HTG.o _).mono ?_;rintro e u6 ⟨rfl,nL⟩;have WK:Fr aS W u6:=(by first|exact uz.trans nL|exact(aA (ae aS W)).trans nL))
       |(go_at_call 50;refine(AZ.o _ jH).mono ?_;rintro e u7 Ru;obtain⟨⟨et,evv,rfl⟩,nO⟩:=WA YH.o J2.o Ru;have Mn:Fr aS W u7:=(by first|exact WK.trans nO|exact uz.trans nO))))
     all_goals as_aux_lemma =>
      have HU:=O (Mn);have UX:=O (show∀U,Fr (dy v1.b v1.gv v1.wv) u7 U->(U.cell? ⟨B,off,none⟩=some (.pointer (some ⟨v1.b,0,none⟩))/\U.cell? ⟨n,0,none⟩=some (.bool g.o.aG)/\U.cell? ⟨n,1,none⟩=some (.string g.o.host)/\U.cell? ⟨n,2,none⟩=some (.int .i64 g.o.port)/\U.cell? ⟨n,3,none⟩=some (.bool g.proxy)/\U.cell? ⟨n,7,none⟩=some (.string g.a.aM))from fun U hU=>by
       have j1:=(Mm.o.dm HU.o).fr hU (fun hb=>I1.o.fq Mm.o.eN ag (Or.inl hb));have j2:=hU.keep (HU.o.keep HXB.o id) (fun hb=>HNF.o (Or.inl hb));refine⟨j1.cell0,?_,?_,?_,?_,?_⟩<;>simp[World.cell?,j2])
      have TU:=O (show∀U,Fr aS u7 U->aB 53 #[.pointer (some ⟨v1.b,0,none⟩),.agg #[.bool g.o.aG,.string g.o.host,.int .i64 g.o.port],.bool g.proxy,.string g.a.aM] U (wX base U v1.b v1.gv v1.wv us.1 p.waits (np g.o g.proxy g.a.aM))from fun U hU=>Ad base U v1.b v1.gv v1.wv us.1 p.waits g.o g.proxy g.a.aM ((I1.o.dm HU.o).dm hU).oK);go_wp2_with fail
      go_region_held3 (fun U=>Fr (dy v1.b v1.gv v1.wv) u7 U/\U.cell? ⟨B,off,none⟩=some (.pointer (some ⟨v1.b,0,none⟩))/\U.cell? ⟨n,0,none⟩=some (.bool g.o.aG)/\U.cell? ⟨n,1,none⟩=some (.string g.o.host)/\U.cell? ⟨n,2,none⟩=some (.int .i64 g.o.port)/\U.cell? ⟨n,3,none⟩=some (.bool g.proxy)/\U.cell? ⟨n,7,none⟩=some (.string g.a.aM)) ((refine(fun hU=>⟨hU,UX.o _ hU⟩) ?_;first|exact aA (ae _ _)|assumption))
       ((first
        |(go_at_call 53;refine(TU.o _ (aA (ae _ _))).mono ?_;rintro e u9 ⟨rfl,OV⟩;have WI:Fr (dy v1.b v1.gv v1.wv) u7 u9:=(aA (ae _ _)).trans (by obtain⟨_,_,_,h,_⟩:=OV;exact h))))
      have WJ:=eW ((I1.o.dm HU.o).dm (aA (ae aS u7))) ((Mm.o.dm HU.o).dm (aA (ae aS u7))) (I1.o.fq Mm.o.eN ag) OV;have HP:=O (show dn base w B cs off v {p with bG:=vC us.1 g.o g.proxy g.a.aM} u9 from di il.o (gP F1.o FT1.o (di HU.o (di (aA (ae aS u7)) WJ))));have r9:=O (eM (B:=B) (I1.o.dm HU.o) (WI.mono (fun k _ hk=>Or.inr (Or.inl hk))) (HU.o.keep R1.o id) dM ab);clear WJ OV WI UX TU
      go_wp2_with (first|((with_reducible refine cZ 30 ?_);refine aF rfl 30 (.tmp 4) (.tmp 74) rfl (w.heap.size+1) #[.int .i64 2,.string ⟨#[]⟩,.int .i64 0] rfl rfl _ bU r9.o (bf _ rfl) rfl cC ?_)|fail)
      refine aW (bw bD _ _ (w.heap.size+1) 30 #[.int .i64 2,.string ⟨#[]⟩,.int .i64 0] (0,0) _ rfl (a_ _ (w.heap.size+1) _ _ _ _ r9.o) underlying30 rfl (bf _ rfl)) rfl ?_;unfold eK;rw[HR.o];exact⟨rfl,dC HP.o py.o pn.o (bX _) r9.o eQ ag _⟩
    |some s =>
     have HR:=O (show iA p (o.dW hs)=({p with bG:=us.1},⟨1,s,0⟩)by rw[WH.o,zi]);have J2:=O zi;have YH:=O hsc;clear zi WH SL hqn hon T7 hsc;go_wp2_with fail
     go_region_held3 (fun U=>Fr aS W U/\U.cell? ⟨n,4,none⟩=some (.string g.user)/\U.cell? ⟨n,5,none⟩=some (.string g.pass)/\U.cell? ⟨n,6,none⟩=some (.int .i64 g.a.scheme)/\U.cell? ⟨n,7,none⟩=some (.string g.a.aM)/\U.cell? ⟨n,8,none⟩=some (.string g.a.bu)/\U.cell? ⟨n,9,none⟩=some (.string g.a.cz)/\U.cell? ⟨n,10,none⟩=some (.bool g.a.cD)/\U.cell? ⟨n,11,none⟩=some (.string g.a.eJ)/\U.cell? ⟨n,12,none⟩=some (.bool g.a.cR)/\U.cell? ⟨n,13,none⟩=some (.slice ad g.a.dom.length cd)/\U.cell? ⟨n,14,none⟩=some (.int .i64 g.count)/\U.cell? ⟨w.heap.size+2,4,none⟩=some (.bool o.aN.o.aG)/\U.cell? ⟨w.heap.size+2,5,none⟩=some (.string o.aN.o.host)/\U.cell? ⟨w.heap.size+2,6,none⟩=some (.int .i64 o.aN.o.port)/\U.cell? ⟨w.heap.size+2,7,none⟩=some (.string o.aN.path)/\U.cell? ⟨w.heap.size+2,8,none⟩=some (.string o.aN.query)/\U.cell? ⟨w.heap.size+2,9,none⟩=some (.string o.aN.method)/\U.cell? ⟨w.heap.size+2,12,none⟩=some (.string o.aN.body)/\U.cell? ⟨w.heap.size,18,none⟩=some (.string o.bS)) ((refine(fun hU=>⟨hU,HC8.o _ hU⟩) ?_;first|exact aA (ae _ _)|assumption))
      ((first
       |(go_at_call 51;refine(HME.o _).mono ?_;rintro e u5 ⟨rfl,lN⟩;have uz:Fr aS W u5:=(by first|exact WK.trans lN|exact(aA (ae aS W)).trans lN))
       |(go_at_call 52;refine(HTG.o _).mono ?_;rintro e u6 ⟨rfl,nL⟩;have WK:Fr aS W u6:=(by first|exact uz.trans nL|exact(aA (ae aS W)).trans nL))
       |(go_at_call 50;refine(AZ.o _ jH).mono ?_;rintro e u7 Ru;obtain⟨rfl,nO⟩:=WB YH.o J2.o Ru;have Mn:Fr aS W u7:=(by first|exact WK.trans nO|exact uz.trans nO))))
     all_goals as_aux_lemma =>
      have HU:=O (Mn);have HP:=O (show dn base w B cs off v {p with bG:=us.1} u7 from di il.o (dn.then ⟨v1,I1.o,F1.o,FT1.o,Mm.o.eN⟩ HU.o));have r9:=O (HU.o.keep R1.o id);go_wp2_with (first|((with_reducible refine cZ 30 ?_);refine aF rfl 30 (.tmp 4) (.tmp 76) rfl (w.heap.size+1) #[.int .i64 1,.string s,.int .i64 0] rfl rfl _ bU r9.o (bf _ rfl) rfl cC ?_)|fail)
      refine aW (bw bD _ _ (w.heap.size+1) 30 #[.int .i64 1,.string s,.int .i64 0] (0,0) _ rfl (a_ _ (w.heap.size+1) _ _ _ _ r9.o) underlying30 rfl (bf _ rfl)) rfl ?_;unfold eK;rw[HR.o];exact⟨rfl,dC HP.o py.o pn.o (bX _) r9.o eQ ag _⟩
