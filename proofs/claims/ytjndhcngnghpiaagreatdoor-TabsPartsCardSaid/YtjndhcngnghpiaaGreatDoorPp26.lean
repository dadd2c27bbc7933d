/- Lemmas for the law's walk. -/
import Derived.Test.YtjndhcngnghpiaaGreatDoorPp16
import Derived.Test.YtjndhcngnghpiaaGreatDoorPp22
set_option maxRecDepth 100000
set_option maxHeartbeats 16000000
set_option linter.unusedSimpArgs false
namespace Go.Proofs.YtjndhcngnghpiaaGreatDoor
open Go.Proofs.Tryz
open Go.RowKit
variable {w w' U:World} {g j:Nat} {l:List Int} {e:Ending} {o:jx}
theorem qh.cell(h:qh w g l)(hj:j<l.length):w.cell? ⟨g,j,none⟩=some (.int .u32 (l.getD j 0)):=by
 unfold qh at h;simp only[World.cell?,h];simp[List.getElem?_append_left,hj,List.getD_eq_getElem?_getD]
theorem qh.zero(h:qh w g l)(hj:l.length<64):w.cell? ⟨g,l.length,none⟩=some (.int .u32 0):=by
 unfold qh at h;have e:((l++List.replicate (64-l.length) 0).map (Value.int IntKind.u32))[l.length]?=some (Value.int IntKind.u32 0):=by
  rw[List.getElem?_map,List.getElem?_append_right (az _),Nat.sub_self,List.getElem?_replicate];rw[aB ab];rfl
 simp only[World.cell?,h];simpa using e
theorem qh.free(h:qh w g l)(j:Nat):w.frozen? ⟨g,j,none⟩=false:=by
 unfold qh at h;simp[World.frozen?,h]
theorem qh.set(h:qh w g l)(hj:l.length<64)(x:Int):qh (w.setCell ⟨g,l.length,none⟩ (.int .u32 x)) g (l++[x]):=by
 unfold qh at h ⊢;rw[tq h]
 congr 2
 have e:List.replicate (64-l.length) (0:Int)=0 :: List.replicate (64-(l++[x]).length) 0:=by
  rw[aM,show 64-l.length=(64-(l.length+[x].length))+1 from bH,List.replicate_succ]
 rw[e];simp
theorem agL(a b c d:Int):IntKind.u32.wrap (IntKind.u32.wrap (IntKind.u32.wrap (a+b)+c)+d)=(a+b+c+d)%4294967296:=by
 have e:∀x:Int,IntKind.u32.wrap x=x%4294967296:=fun x=>by simp[IntKind.wrap,IntKind.signed,IntKind.bits]
 rw[e,e,e];omega
theorem Dh(x:Int):IntKind.u32.wrap x=x%4294967296:=by simp[IntKind.wrap,IntKind.signed,IntKind.bits]
theorem agM(a b c d e:Int):IntKind.u32.wrap (IntKind.u32.wrap (IntKind.u32.wrap (IntKind.u32.wrap (a+b)+c)+d)+e)=(a+b+c+d+e)%4294967296:=by
 rw[Dh,Dh,Dh,Dh];omega
theorem acq(a0 a1 a2 a3 a4 a5 a6 a7:Int):prog.built 293 [(0,.int .u32 a0),(1,.int .u32 a1),(2,.int .u32 a2),(3,.int .u32 a3),(4,.int .u32 a4),(5,.int .u32 a5),(6,.int .u32 a6),(7,.int .u32 a7)]=some #[.int .u32 a0,.int .u32 a1,.int .u32 a2,.int .u32 a3,.int .u32 a4,.int .u32 a5,.int .u32 a6,.int .u32 a7]:=af
theorem D_{ops:Array Oper}{rest:List Oper}{o:Oper}{a:Act}{w:World}{Q:Exit->Act->World->Prop}(hg:o.guard=none)(x0 x1 x2 x3 x4 x5 x6 x7:Operand)
  (ho:o.op=.build 293 #[(0,x0),(1,x1),(2,x2),(3,x3),(4,x4),(5,x5),(6,x6),(7,x7)])(d:Option Tmp)(hd:o.dst=d)(v0 v1 v2 v3 v4 v5 v6 v7:Int)
  (h0:a.eval x0=.int .u32 v0)(h1:a.eval x1=.int .u32 v1)(h2:a.eval x2=.int .u32 v2)(h3:a.eval x3=.int .u32 v3)(h4:a.eval x4=.int .u32 v4)(h5:a.eval x5=.int .u32 v5)(h6:a.eval x6=.int .u32 v6)(h7:a.eval x7=.int .u32 v7)
  (h:wpList prog ops Q rest (a.put d (.agg #[.int .u32 v0,.int .u32 v1,.int .u32 v2,.int .u32 v3,.int .u32 v4,.int .u32 v5,.int .u32 v6,.int .u32 v7])) w):wpList prog ops Q (o :: rest) a w:=by
 refine wpList_buildTo hg 293 _ ho d hd _ ?_ h;simp only[eM,cA,du,h0,h1,h2,h3,h4,h5,h6,h7];exact acq _ _ _ _ _ _ _ _
theorem vP{k:Nat}(h:k≠g)(cs:bW):(w.setRow g cs).heap[k]?=w.heap[k]?:=by
 simp[World.setRow,Array.getElem?_modify,kE h]
theorem Ud{a:World}(h:Fr aX a w)(hg:a.heap.size<=g)(cs:bW):Fr aX a (w.setRow g cs) :=
 ⟨h.os,h.tape,h.output,by show a.heap.size<=(w.setRow g cs).heap.size;rw[World.setRow];simp only[Array.size_modify];exact h.size,fun k hk hn=>(vP ab cs).trans (h.block k hk hn)⟩
theorem acr(v0 v1 v2 v3 v4 v5 v6 v7:Int):(#[.int .u32 v0,.int .u32 v1,.int .u32 v2,.int .u32 v3,.int .u32 v4,.int .u32 v5,.int .u32 v6,.int .u32 v7]:bW).all (·.oneCell')=true:=bS
def ur(w:World)(g:Nat)(l:List Int):Prop:=w.heap[g]?=some (.cells (l.map (Value.int .u32)).toArray 293 (0,0))
theorem ur.cell(h:ur w g l)(hj:j<l.length):w.cell? ⟨g,j,none⟩=some (.int .u32 (l.getD j 0)):=by
 unfold ur at h;simp only[World.cell?,h];simp[hj,List.getD_eq_getElem?_getD]
theorem ur.free(h:ur w g l)(j:Nat):w.frozen? ⟨g,j,none⟩=false:=by
 unfold ur at h;simp[World.frozen?,h]
theorem ur.set(h:ur w g l)(j:Nat)(x:Int):ur (w.setCell ⟨g,j,none⟩ (.int .u32 x)) g (l.set j x):=by
 unfold ur at h ⊢;rw[tq h];simp[List.map_set]
def GF(a b:List Int):Nat->List Int
 |0=>a
 |k+1=>(GF a b k).set k ((a.getD k 0+b.getD k 0)%4294967296)
theorem J2(a b:List Int):∀k,(GF a b k).length=a.length
 |0=>rfl
 |k+1=>by rw[GF,dZ,J2 a b k]
theorem J3(a b:List Int):∀k j,k<=j->(GF a b k).getD j 0=a.getD j 0
 |0,_,_=>rfl
 |k+1,j,h=>by
  rw[GF,List.getD_eq_getElem?_getD,List.getElem?_set,ay ab, <-List.getD_eq_getElem?_getD,J3 a b k j ab]
theorem Ya(T:aK):∀k,∀x∈(zS T k).list,0<=x/\x<4294967296
 |0=>by
  intro x hx;simp only[zS,Sh.list,sh0,bE,bU,dL]at hx;rcases hx with rfl|rfl|rfl|rfl|rfl|rfl|rfl|rfl<;>decide
 |k+1=>by
  intro x hx;simp only[zS,yI,NU,Sh.list,bE,bU,dL]at hx;rcases hx with rfl|rfl|rfl|rfl|rfl|rfl|rfl|rfl<;>exact zR _
def al8(H V:Sh)(g g1:Nat)(w:World)(i:Value)(wr:World):Prop :=
 ∃k:Nat,k<=8/\i=.int .i64 k/\ur wr g (GF H.list V.list k)/\ur wr g1 V.list/\Fr aX w wr
def al9(tr:Nat->Sh)(ws:List Int)(H:Sh)(g g1 gw:Nat)(w:World)(i:Value)(wr:World):Prop :=
 ∃k:Nat,k<=64/\i=.int .i64 k/\uQ wr g (tr k)/\uQ wr g1 H/\qh wr gw ws/\Fr aX w wr
theorem uQ.cells{h:Sh}(hm:uQ w g h):w.cell? ⟨g,0,none⟩=some (.int .u32 h.v0)/\w.cell? ⟨g,1,none⟩=some (.int .u32 h.v1)/\w.cell? ⟨g,2,none⟩=some (.int .u32 h.v2)/\w.cell? ⟨g,3,none⟩=some (.int .u32 h.v3) /\
  w.cell? ⟨g,4,none⟩=some (.int .u32 h.v4)/\w.cell? ⟨g,5,none⟩=some (.int .u32 h.v5)/\w.cell? ⟨g,6,none⟩=some (.int .u32 h.v6)/\w.cell? ⟨g,7,none⟩=some (.int .u32 h.v7):=by
 unfold uQ at hm;simp[World.cell?,hm]
def agN(X:aK)(g:Nat)(w:World)(i:Value)(wr:World):Prop:=∃k:Nat,k<=64/\i=.int .i64 k/\qh wr g (VT X k)/\Fr aX w wr
set_option pp.deepTerms true in
set_option pp.maxSteps 1000000 in
theorem Mt(s:ai)(w:World)(hs:s.size<4398046511104)(ht:tZ w) :
  aE 207 #[.string s] w fun e w'=>e=.returned (.string ⟨(Jd s.data.toList).toArray⟩)/\Fr aX w w':=by
 have c0:=ht.b.2 0 _ rfl;have c1:=ht.b.2 1 _ rfl;have c2:=ht.b.2 2 _ rfl;have c3:=ht.b.2 3 _ rfl;have c4:=ht.b.2 4 _ rfl;have c5:=ht.b.2 5 _ rfl;have c6:=ht.b.2 6 _ rfl;have c7:=ht.b.2 7 _ rfl
 have ix:Fr aX w (w.alloc (.cells #[.int .u32 1779033703,.int .u32 3144134277,.int .u32 1013904242,.int .u32 2773480762,.int .u32 1359893119,.int .u32 2600822924,.int .u32 528734635,.int .u32 1541459225] 293)):=(ae aX w).alloc _
 have Wx:uQ (w.alloc (.cells #[.int .u32 1779033703,.int .u32 3144134277,.int .u32 1013904242,.int .u32 2773480762,.int .u32 1359893119,.int .u32 2600822924,.int .u32 528734635,.int .u32 1541459225] 293)) w.heap.size sh0:=aC _ _;have HM0:=O Wx;clear Wx;go_enter func207,ntmps207;go_wp2_with fail
 clear c0 c1 c2 c3 c4 c5 c6 c7;refine(NQ s false _ ab).mono ?_;rintro e w1⟨rfl,dw⟩;obtain⟨T,hT⟩:∃T,T=(⟨(uN false s.data.toList).toArray⟩:ai):=⟨_,rfl⟩;rw[<-hT];have ZC:T.data.toList=uN false s.data.toList:=by rw[hT]
 have hTs:T.size=(uN false s.data.toList).length:=by rw[<-ZC];simp
 obtain⟨abm,Sy⟩:=Jb false s.data.toList;rw[<-hTs]at abm Sy;have ZD:s.data.toList.length=s.size:=aS;rw[ZD]at Sy;have Cw:=O (show Jd s.data.toList=ox false (zS T.data.toList (T.size/64)).list by unfold Jd;rw[ZC,hTs]);have HM1:=O (show uQ w1 w.heap.size sh0 from dw.keep HM0.o id);have lA:=O (ix.trans dw);clear hT ZC hTs HM0 ix dw ZD;go_wp2
 go_loopw[4] (afk T w.heap.size w) (fun t _=>match t with| .string x=>x.size|_=>0)
 case atStart=>exact⟨0,ab,by rw[Nat.mul_zero];congr 1;apply Go.WideShapes.bytes_inj;rw[kn];rfl,HM1.o,lA.o⟩
 case round =>
  obtain⟨n,hn,rfl,hm,cR⟩:=hrel;generalize wr=wo at *
  by_cases hne:64*n<T.size
  ·have Sz:64<=(T.extract (64*n) T.size).size:=by rw[js];omega
   have akP:(T.extract (64*n) T.size).size<17592186044416:=by rw[js];omega
   have p9:=O (NS T (64*n) 64);have hXl:=O (kn T (64*n));generalize T.extract (64*n) T.size=X at *
   have HM:=O hm;have pG:=O (show zS T.data.toList (n+1)=yI X.data.toList (zS T.data.toList n)by rw[hXl.o];rfl);generalize zS T.data.toList n=H at *
   clear hm;have hx:X.toList.isEmpty=false:=by
    rw[aN];cases hq:X.data.toList with
    |nil=>rw[gN.1 hq]at Sz;omega
    |cons a l=>rfl
   have R7:¬X.toList=[]:=by rw[aN];intro h;rw[gN.1 h]at Sz;omega
   go_wp2;go_loopw[23] (agN X.data.toList wo.heap.size wo) (fun i _=>64-(intOf i).toNat)
   case atStart=>exact⟨0,ab,rfl,by unfold qh;rw[aC];kernel_rfl,(ae _ _).alloc _⟩
   case round =>
    obtain⟨k,hk,rfl,zB,km⟩:=hrel;have hlen:=O (NT X.data.toList k);have He:=O (show VT X.data.toList (k+1)=EL X.data.toList (VT X.data.toList k) k from rfl);have H64:=O (show k=64->VT X.data.toList k=VT X.data.toList 64 from fun h=>by rw[h]);generalize VT X.data.toList k=l at *
    by_cases I7:k<64
    ·have qm:(k:Int)<64:=ab;have hz:=zB.zero (by rw[hlen.o];exact I7);have hf:=zB.free k;rw[hlen.o]at hz;have qy:=O (zB.set (by rw[hlen.o];exact I7) (EK X.data.toList l k));by_cases uO:k<16
     ·have agO:(k:Int)<16:=ab;obtain⟨wv,DY⟩:∃wv,wv=qp false (X.extract (4*k) X.size).data.toList:=⟨_,rfl⟩;have r_:=O (fun W=>vD (X.extract (4*k) X.size) false W (by rw[js];omega) (by rw[js];omega));rw[<-DY]at r_;have HN:=O (show EK X.data.toList l k=wv by unfold EK;rw[aB uO,DY,kn]);clear DY;have q2:4*(k:Int)<=(X.size:Int):=ab;go_wp2_with fail
      refine(r_.o _).mono ?_;rintro e w5⟨rfl,nq,rfl⟩;have EN:=O (show qh (wr.drewN nq) wo.heap.size l from zB);have hz5:(wr.drewN nq).cell? ⟨wo.heap.size,k,none⟩=some (.int .u32 0):=hz;have lB:(wr.drewN nq).frozen? ⟨wo.heap.size,k,none⟩=false:=hf;have agP:=O (show qh ((wr.drewN nq).setCell ⟨wo.heap.size,k,none⟩ (.int .u32 wv)) wo.heap.size (EL X.data.toList l k)from by
       have h:=zB.set (by rw[hlen.o];exact I7) wv;rw[hlen.o]at h;unfold EL;rw[HN.o];exact h)
      have xO:=km.drewN nq;clear hz hf;generalize wr.drewN nq=wd at *
      go_wp2;go_roundw
      case rel=>exact⟨k+1,ab,bh,by rw[He.o];exact agP.o,xO.gI (p:=⟨wo.heap.size,k,none⟩) (az _) _⟩
      case measure=>simp[intOf];omega
     ·have agO:¬(k:Int)<16:=ab;obtain⟨V5,e16⟩:∃j:Nat,(k:Int)-16=(j:Int):=⟨k-16,ab⟩;obtain⟨j15,e15⟩:∃j:Nat,(k:Int)-15=(j:Int):=⟨k-15,ab⟩;obtain⟨j7,e7⟩:∃j:Nat,(k:Int)-7=(j:Int):=⟨k-7,ab⟩;obtain⟨j2,e2⟩:∃j:Nat,(k:Int)-2=(j:Int):=⟨k-2,ab⟩;have x16:=zB.cell (j:=V5) (by rw[hlen.o];omega);have x15:=zB.cell (j:=j15) (by rw[hlen.o];omega);have x7:=zB.cell (j:=j7) (by rw[hlen.o];omega)
      have x2:=zB.cell (j:=j2) (by rw[hlen.o];omega);have HN:=O (show EK X.data.toList l k=(l.getD V5 0+l.getD j7 0+abq (l.getD j15 0)+abr (l.getD j2 0))%4294967296 by
       unfold EK;rw[ay uO,show k-16=V5 from ab,show k-15=j15 from ab,show k-7=j7 from ab,show k-2=j2 from ab])
      generalize l.getD V5 0=v16 at *
      generalize l.getD j15 0=v15 at *
      generalize l.getD j7 0=v7 at *
      generalize l.getD j2 0=v2 at *
      have w16:IntKind.i64.wrap ((k:Int)-16)=(V5:Int):=by rw[<-e16];exact IntWalk.i64_in _ ab
      have w15:IntKind.i64.wrap ((k:Int)-15)=(j15:Int):=by rw[<-e15];exact IntWalk.i64_in _ ab
      have w7:IntKind.i64.wrap ((k:Int)-7)=(j7:Int):=by rw[<-e7];exact IntWalk.i64_in _ ab
      have w2:IntKind.i64.wrap ((k:Int)-2)=(j2:Int):=by rw[<-e2];exact IntWalk.i64_in _ ab
      have b16:(V5:Int)<64:=ab;have b15:(j15:Int)<64:=ab;have b7:(j7:Int)<64:=ab;have b2:(j2:Int)<64:=ab;have n16:V5<64:=ab;have n15:j15<64:=ab;have n7:j7<64:=ab;have n2:j2<64:=ab;go_wp2;go_quiet (fail);have X16:(wr.drewN nq).cell? ⟨wo.heap.size,V5,none⟩=some (.int .u32 v16):=x16;have X7:(wr.drewN nq).cell? ⟨wo.heap.size,j7,none⟩=some (.int .u32 v7):=x7
      have hz5:(wr.drewN nq).cell? ⟨wo.heap.size,k,none⟩=some (.int .u32 0):=hz;have lB:(wr.drewN nq).frozen? ⟨wo.heap.size,k,none⟩=false:=hf;have EN:=O (show qh (wr.drewN nq) wo.heap.size l from zB);have xO:=km.drewN nq;clear x16 x7 hz hf zB qy km;generalize wr.drewN nq=wd at *
      go_wp2_with fail
      have y16:IntKind.i64.wrap (V5:Int)=(V5:Int):=IntWalk.i64_in _ ab;have y7:IntKind.i64.wrap (j7:Int)=(j7:Int):=IntWalk.i64_in _ ab;clear w16 w15 w7 w2;refine wp_region_still_tail 29 af af ?_;simp only[List.take_succ_cons,List.take_zero,List.drop_succ_cons,eF]
      iterate 11 still_step
      still_call (akR v15 _)
      iterate 1 still_step
      still_call (afc v15 _)
      iterate 6 still_step
      still_call (afd v2 _)
      iterate 1 still_step
      still_call (afe v2 _)
      iterate 6 still_step
      refine wpStill_nil ?_;change wpList _ _ _ _ _ wd.drew;have HS:=O (show∀x,qh (wd.drew.setCell ⟨wo.heap.size,k,none⟩ (.int .u32 x)) wo.heap.size (l++[x])from fun x=>by
       have h:=(show qh wd.drew wo.heap.size l from EN.o).set (by rw[hlen.o];exact I7) x;rw[hlen.o]at h;exact h)
      have hz6:wd.drew.cell? ⟨wo.heap.size,k,none⟩=some (.int .u32 0):=hz5;have nt:wd.drew.frozen? ⟨wo.heap.size,k,none⟩=false:=lB;have Yb:Fr aX wo wd.drew:=xO.drew;clear hz5 lB X16 X7 y16 y7 e16 e15 e7 e2;generalize wd.drew=we at *
      go_wp2_with fail
      go_wp2;go_roundw
      case rel=>exact⟨k+1,ab,bh,by rw[He.o];unfold EL;rw[HN.o];unfold abq abr Jc;rw[<-agL];exact HS.o _,Yb.gI (p:=⟨wo.heap.size,k,none⟩) (az _) _⟩
      case measure=>simp[intOf];omega
    ·have SA:k=64:=ab;rw[show((k:Nat):Int)=64 from ab];subst SA;have HWS:=O (H64.o rfl);have HW:=O zB;clear H64;have hm3:uQ wr w.heap.size H:=km.keep HM.o id;obtain⟨c0,c1,c2,c3,c4,c5,c6,c7⟩:=hm3.cells;have Rc:=O hm3;obtain⟨gv,hgv⟩:∃gv,gv=wr.heap.size:=⟨_,rfl⟩;have asn:w.heap.size<gv:=by rw[hgv];exact bg hm3
     have aso:wo.heap.size<gv:=by rw[hgv];exact bg zB
     have asp:w.heap.size<wo.heap.size:=bg HM.o;clear hm3 zB;obtain⟨tr,htr⟩:∃tr,tr=yH l H:=⟨_,rfl⟩;have En:=O (show∀k,tr (k+1)=SD (tr k) (shP l k (tr k)) (shQ (tr k))from fun k=>by rw[htr];rfl);have Mu:=O (show tr 0=H by rw[htr];rfl);have HSB:=O (show yI X.data.toList H=NU H (tr 64)by unfold yI;rw[htr,HWS.o]);clear htr;go_wp2;clear c0 c1 c2 c3 c4 c5 c6 c7
     have Sj:Fr aX wr (wr.alloc (.cells #[.int .u32 H.v0,.int .u32 H.v1,.int .u32 H.v2,.int .u32 H.v3,.int .u32 H.v4,.int .u32 H.v5,.int .u32 H.v6,.int .u32 H.v7] 293)):=(ae aX wr).alloc _;have Gi:=cR.trans (km.trans Sj);rw[<-hgv];have HG:=O hgv;clear hgv;go_loopw[74] (al9 tr l H gv w.heap.size wo.heap.size w) (fun i _=>64-(intOf i).toNat)
     case atStart=>exact⟨0,ab,rfl,by rw[Mu.o,HG.o];exact aC _ _,Sj.keep Rc.o id,Sj.keep HW.o id,Gi⟩
     case round =>
      clear Sj Gi Rc HW km;obtain⟨k,hk,rfl,hv,hh,hww,qg⟩:=hrel;generalize wr=wi at *
      by_cases I7:k<64
      ·have qm:(k:Int)<64:=ab;obtain⟨z,hz⟩:∃z,Cy[k]?=some z:=⟨_,List.getElem?_eq_getElem (by show k<64;omega)⟩;have Z8:wi.cell? ⟨2,k,none⟩=some (.int .u32 z):=(ht.fr qg).r.2 k z hz;have Zz:=O (show Cy.getD k 0=z by rw[List.getD_eq_getElem?_getD,hz];rfl);clear hz;have hwk:=hww.cell (j:=k) (by rw[hlen.o];exact I7);obtain⟨x,hx⟩:∃x,x=l.getD k 0:=⟨_,rfl⟩;rw[<-hx]at hwk;have HS1:=O (En.o k)
       generalize tr k=V at *
       have HP:=O (show shP l k V=(V.v7+Jc (lL V.v4 26) (lL V.v4 21) (lL V.v4 7)+bits .xor .u32 (bits .and .u32 V.v4 V.v5) (bits .and .u32 (Ly V.v4) V.v6)+z+x)%4294967296 by unfold shP;rw[Zz.o,hx]);obtain⟨c0,c1,c2,c3,c4,c5,c6,c7⟩:=hv.cells;have HV:=O hv;have HH:=O hh;have wN:=O hww;clear hv hh hww hx;go_wp2;go_quiet (fail);go_wp2_with fail
       have HV2:=O (show uQ (wi.drewN nq) gv V from HV.o);have HH2:=O (show uQ (wi.drewN nq) w.heap.size H from HH.o);have agQ:=O (show qh (wi.drewN nq) wo.heap.size l from wN.o);have acw:(wi.drewN nq).cell? ⟨2,k,none⟩=some (.int .u32 z):=Z8;have ame:(wi.drewN nq).cell? ⟨wo.heap.size,k,none⟩=some (.int .u32 x):=hwk;have n9:=qg.drewN nq;clear HV HH wN Z8 hwk qg c0 c1 c2 c3 c4 c5 c6 c7
       generalize wi.drewN nq=wd at *
       obtain⟨c0,c1,c2,c3,c4,c5,c6,c7⟩:=HV2.o.cells;refine wp_region_still_tail 30 af af ?_;simp only[List.take_succ_cons,List.take_zero,List.drop_succ_cons,eF]
       iterate 3 still_step
       still_call (akS V.v4 _)
       iterate 1 still_step
       still_call (aff V.v4 _)
       iterate 2 still_step
       still_call (afg V.v4 _)
       iterate 21 still_step
       refine wpStill_nil ?_;rw[show(if IntKind.u32.signed=true then(-1:Int)else IntKind.u32.max)=IntKind.u32.max from rfl];rw[show bits .xor .u32 IntKind.u32.max V.v4=Ly V.v4 from rfl];generalize hy0:Ly V.v4=y0;generalize Yc:bits .xor .u32 (bits .and .u32 V.v4 V.v5) (bits .and .u32 y0 V.v6)=y2;generalize bits .and .u32 y0 V.v6=y3
       generalize DK:bits .xor .u32 (bits .xor .u32 (lL V.v4 26) (lL V.v4 21)) (lL V.v4 7)=y1;generalize A1:IntKind.u32.wrap (V.v7+y1)=s1;generalize KQ:IntKind.u32.wrap (s1+y2)=s2;generalize RQ:IntKind.u32.wrap (s2+z)=s3;generalize ZQ:IntKind.u32.wrap (s3+x)=p;have HP2:=O (show shP l k V=p by rw[HP.o, <-ZQ, <-RQ, <-KQ, <-A1, <-DK, <-Yc, <-hy0,agM];rfl);clear ZQ RQ KQ A1 DK Yc hy0 HP acw ame
       change wpList _ _ _ _ _ wd.drew;have Z9:=O (show uQ (wd.drew) gv V from HV2.o);have HH3:=O (show uQ (wd.drew) w.heap.size H from HH2.o);have agS:=O (show qh (wd.drew) wo.heap.size l from agQ.o);have xO:=n9.drew;clear HV2 HH2 agQ n9 c0 c1 c2 c3 c4 c5 c6 c7;generalize wd.drew=we at *
       obtain⟨c0,c1,c2,c3,c4,c5,c6,c7⟩:=Z9.o.cells
       iterate 7 go_step
       refine wp_region_still_tail 24 af af ?_;simp only[List.take_succ_cons,List.take_zero,List.drop_succ_cons,eF]
       iterate 1 still_step
       still_call (akT V.v0 _)
       iterate 1 still_step
       still_call (afh V.v0 _)
       iterate 2 still_step
       still_call (afi V.v0 _)
       iterate 17 still_step
       refine wpStill_nil ?_;generalize hy4:bits .xor .u32 (bits .xor .u32 (bits .and .u32 V.v0 V.v1) (bits .and .u32 V.v0 V.v2)) (bits .and .u32 V.v1 V.v2)=y4;generalize hy5:bits .xor .u32 (bits .xor .u32 (lL V.v0 30) (lL V.v0 19)) (lL V.v0 10)=y5;generalize hs5:IntKind.u32.wrap (y5+y4)=q;have Yd:=O (show shQ V=q by rw[<-hs5, <-hy5, <-hy4];unfold shQ Jc;rw[Dh]);clear hs5 hy5 hy4
       change wpList _ _ _ _ _ we.drew;have HV4:=O (show uQ (we.drew) gv V from Z9.o);have HH4:=O (show uQ (we.drew) w.heap.size H from HH3.o);have amf:=O (show qh (we.drew) wo.heap.size l from agS.o);have Yb:=xO.drew;clear Z9 HH3 agS xO c0 c1 c2 c3 c4 c5 c6 c7;generalize we.drew=wf at *
       obtain⟨c0,c1,c2,c3,c4,c5,c6,c7⟩:=HV4.o.cells;have hb:wf.heap[gv]?=some (.cells #[.int .u32 V.v0,.int .u32 V.v1,.int .u32 V.v2,.int .u32 V.v3,.int .u32 V.v4,.int .u32 V.v5,.int .u32 V.v6,.int .u32 V.v7] 293 (0,0)):=HV4.o;have HB:=O hb;clear hb
       go_wp2_with (first|((with_reducible refine dt 154 ?_);refine D_ rfl (.tmp 137) (.tmp 139) (.tmp 141) (.tmp 143) (.tmp 147) (.tmp 149) (.tmp 151) (.tmp 153) rfl (some 154) rfl ((p+q)%4294967296) V.v0 V.v1 V.v2 ((V.v3+p)%4294967296) V.v4 V.v5 V.v6 rfl rfl rfl rfl rfl rfl rfl rfl ?_)|((with_reducible refine lH ⟨none,_,_,_,_,_⟩ ?_);refine wpList_store_rowTo rfl 293 (.tmp 9) (.tmp 154) rfl rfl gv #[.int .u32 ((p+q)%4294967296),.int .u32 V.v0,.int .u32 V.v1,.int .u32 V.v2,.int .u32 ((V.v3+p)%4294967296),.int .u32 V.v4,.int .u32 V.v5,.int .u32 V.v6] rfl rfl _ _ HB.o af rfl (acr _ _ _ _ _ _ _ _) ?_;have mC:=O (show uQ (wf.setRow gv #[.int .u32 ((p+q)%4294967296),.int .u32 V.v0,.int .u32 V.v1,.int .u32 V.v2,.int .u32 ((V.v3+p)%4294967296),.int .u32 V.v4,.int .u32 V.v5,.int .u32 V.v6]) gv (SD V p q)from aY _ _ _ _ _ _ HB.o);have HH5:=O (show uQ (wf.setRow gv #[.int .u32 ((p+q)%4294967296),.int .u32 V.v0,.int .u32 V.v1,.int .u32 V.v2,.int .u32 ((V.v3+p)%4294967296),.int .u32 V.v4,.int .u32 V.v5,.int .u32 V.v6]) w.heap.size H from(vP ab _).trans HH4.o);have amg:=O (show qh (wf.setRow gv #[.int .u32 ((p+q)%4294967296),.int .u32 V.v0,.int .u32 V.v1,.int .u32 V.v2,.int .u32 ((V.v3+p)%4294967296),.int .u32 V.v4,.int .u32 V.v5,.int .u32 V.v6]) wo.heap.size l from(vP ab _).trans amf.o);have VO:=O (show Fr aX w (wf.setRow gv #[.int .u32 ((p+q)%4294967296),.int .u32 V.v0,.int .u32 V.v1,.int .u32 V.v2,.int .u32 ((V.v3+p)%4294967296),.int .u32 V.v4,.int .u32 V.v5,.int .u32 V.v6])from Ud Yb ab _);clear Yb c0 c1 c2 c3 c4 c5 c6 c7;generalize wf.setRow gv #[.int .u32 ((p+q)%4294967296),.int .u32 V.v0,.int .u32 V.v1,.int .u32 V.v2,.int .u32 ((V.v3+p)%4294967296),.int .u32 V.v4,.int .u32 V.v5,.int .u32 V.v6]=wg at *))
       go_wp2;go_roundw
       case rel=>exact⟨k+1,ab,bh,by rw[HS1.o,HP2.o,Yd.o];exact mC.o,HH5.o,amg.o,VO.o⟩
       case measure=>simp[intOf];omega
      ·have SA:k=64:=ab;rw[show((k:Nat):Int)=64 from ab];subst SA;clear hww;generalize tr 64=V at *
       have Z_:ur wi gv V.list:=hv;have hhz:ur wi w.heap.size (GF H.list V.list 0):=hh;have HVZ:=O Z_;have HHZ:=O hhz;clear hv hh Z_ hhz;go_wp2;go_loopw[156] (al8 H V w.heap.size gv w) (fun i _=>8-(intOf i).toNat)
       case atStart=>exact⟨0,ab,rfl,HHZ.o,HVZ.o,qg⟩
       case round =>
        clear HVZ HHZ qg;obtain⟨k,hk,rfl,hz,Z_,n9⟩:=hrel;generalize wr=wx at *
        have hL1:H.list.length=8:=rfl;have hL2:V.list.length=8:=rfl;by_cases I7:k<8
        ·have qm:(k:Int)<8:=ab;have c0:=hz.cell (j:=k) (by rw[J2];omega);rw[J3 _ _ k k (az _)]at c0;have c1:=Z_.cell (j:=k) ab;have f0:=hz.free k;have mC:=O (show ur (wx.drew.setCell ⟨w.heap.size,k,none⟩ (.int .u32 ((H.list.getD k 0+V.list.getD k 0)%4294967296))) w.heap.size (GF H.list V.list (k+1))from(show ur wx.drew w.heap.size (GF H.list V.list k)from hz).set k _)
         have HVZ:=O (show ur (wx.drew.setCell ⟨w.heap.size,k,none⟩ (.int .u32 ((H.list.getD k 0+V.list.getD k 0)%4294967296))) gv V.list from by
          unfold ur;rw[Below.heap_setCell _ _ _ _ (show gv≠w.heap.size from ab)];exact Z_)
         have ue:=O (n9.drew);generalize H.list.getD k 0=x0 at *
         generalize V.list.getD k 0=x1 at *
         clear hz Z_ n9;go_wp2;refine wp_region_still_tail 8 af af ?_;simp only[List.take_succ_cons,List.take_zero,List.drop_succ_cons,eF]
         iterate 8 still_step
         refine wpStill_nil ?_;change wpList _ _ _ _ _ wx.drew;have c2:wx.drew.cell? ⟨w.heap.size,k,none⟩=some (.int .u32 x0):=c0;have f2:wx.drew.frozen? ⟨w.heap.size,k,none⟩=false:=f0;clear c0 c1 f0;generalize wx.drew=wy at *
         go_wp2_with fail
         go_wp2;go_roundw
         case rel=>exact⟨k+1,ab,bh,by first|exact mC.o|(rw[Dh];exact mC.o),by first|exact HVZ.o|(rw[Dh];exact HVZ.o),ue.o.gI (p:=⟨w.heap.size,k,none⟩) (az _) _⟩
         case measure=>simp[intOf];omega
        ·have hk8:k=8:=ab;subst hk8;have Xb:uQ wx w.heap.size (NU H V):=hz;have amh:=O Xb;have akQ:(64:Int)<=(X.size:Int):=ab;clear hz Z_ Xb;go_wp2;refine⟨⟨n+1,ab,?_,?_,n9⟩,?_⟩
         ·rw[p9.o];rfl
         ·rw[pG.o,HSB.o];exact amh.o
         ·show(X.extract 64 X.size).size<X.size;rw[js];omega
  ·have BD:64*n=T.size:=ab;have he:(T.extract (64*n) T.size)=⟨#[]⟩:=by apply Go.WideShapes.bytes_inj;rw[kn,cO bH]
   rw[he];have SB:=O (show zS T.data.toList (T.size/64)=zS T.data.toList n by rw[<-BD];congr 1;omega);have KW:=Ya T.data.toList n;generalize zS T.data.toList n=H at *
   have hz:ur wo w.heap.size H.list:=hm;have TX:=O (AI w.heap.size H.list false wo (by show 8<=8;omega) (bg hm) (fun j x hj=>by
    have hl:j<H.list.length:=(List.getElem?_eq_some_iff.1 hj).1;rw[hz.cell hl,List.getD_eq_getElem?_getD,hj];rfl) KW)
   clear hm KW hz;go_wp2_with fail
   refine TX.o.mono ?_;rintro e w5⟨rfl,lB⟩;go_wp2;go_ret;exact⟨by rw[Cw.o,SB.o];rfl,cR.trans lB⟩
theorem Ue(w:World)(hs:tZ w):sK 3 w:=by
 intro v ss W hW hv hn hlen;have hT:=O (hs.fr hW);clear hs;have HJ:=O (Je v ss W hv hn hlen);clear hv;have hz:(⟨(ku ss).toArray⟩:ai).size<4398046511104:=by show(ku ss).toArray.size<_;simp;omega
 have HB:=O (show ko (decide ((3:Int)=3)) ss=⟨(Jd (ku ss)).toArray⟩from rfl);generalize ku ss=tx at *
 clear hW;go_enter func160,ntmps160;go_wp2_with fail
 refine HJ.o.mono ?_;rintro e u1⟨rfl,dw⟩;go_wp2_with fail
 refine(Mt ⟨tx.toArray⟩ u1 hz (hT.o.fr dw)).mono ?_;rintro e u2⟨rfl,dF⟩;go_wp2;go_ret;exact⟨(ar (fun b=>Ending.returned (.string b)) HB.o).symm,dw.trans dF⟩
theorem Uf(fI:Int)(w:World)(ht:tY w)(hs:tZ w):sK fI w:=by
 by_cases h:fI=3
 ·subst h;exact Ue w hs
 ·exact Xi fI h w ht
structure wE (w:World):Prop where
 db:oz w 9 .u8 Rf
 md:tY w
 sh:tZ w
theorem wE.fr(h:wE w)(hf:Fr aX w w'):wE w':=⟨h.db.fr hf,h.md.fr hf,h.sh.fr hf⟩
def aha(u:Except Nat (aU bG)):Value:=match u with| .ok _=>.nilIface| .error n=>.iface 82 (.int .i64 n)
theorem qI.one{base:Nat}{b:Nat}{gv wv:Value}{ws:List (bL bG)}{u:List (aU bG)×Except Nat (aU bG)}(h:qI base w b gv wv ws u e w') :
  kp base w b gv wv u.1 ws w'/\∃X:bW,e=.returned (.tuple #[.agg X,aha u.2])/\X.size=16/\X.all (·.oneCell')=true/\∀x,u.2=.ok x->∃r:aU Value,X=r.cells.toArray/\r.Reads (df base w') x:=by
 obtain⟨h1,h2⟩:=h;refine⟨h1,?_⟩;cases hu:u.2 with
 |error n=>rw[hu]at h2;exact⟨fc,h2,rfl,cZ,fun x hx=>by cases hx⟩
 |ok g =>
  rw[hu]at h2;obtain⟨r,e1,e2,e3⟩:=h2;exact⟨r.cells.toArray,e1,rfl,cE e3,fun x hx=>by cases hx;exact⟨r,rfl,e2⟩⟩
theorem Dk{X:bW}(h:X.size=16):(prog.info? 133).map (·.size)=some X.size:=by rw[h];kernel_rfl
def AtJ(base:Nat)(w2:World)(B off:Nat)(cs:a_)(v:dn)(p:eD)(x:Except Nat (aU bG))(n:Nat)(X:bW)(W:World):Prop :=
 sq base w2 B off cs v p n X 133 W/\∀g,x=.ok g->∃r:aU Value,X=r.cells.toArray/\r.Reads (df base W) g
theorem MD{g:aU bG}(h1:g.a.scheme=1)(h:qj g o=none)(hu:g.user.size<=100000)(hp:g.pass.size<=100000) :
  aE 71 #[.agg #[.string g.user,.string g.pass]] U fun e w'=>(∃t v,e=.returned (.tuple #[.string ⟨#[]⟩,.iface t v]))/\Fr aX U w':=by
 refine(EO g.user g.pass U hu hp).mono ?_;rintro e u⟨hb,hf⟩;refine⟨?_,hf⟩;unfold qj at h;rw[aB h1]at h;unfold mI at hb;by_cases hc:0<=Lib.indexByte g.user.data.toList 58
 ·rw[aB hc]at hb;exact⟨_,_,hb⟩
 ·rw[ay hc]at hb h;cases hq:(lg g.user&&lg g.pass)
  ·rw[hq]at hb;exact⟨_,_,hb⟩
  ·rw[hq]at h;cases h
theorem ME{g:aU bG}{s:ai}(h1:g.a.scheme=1)(h:qj g o=some s)(hu:g.user.size<=100000)(hp:g.pass.size<=100000) :
  aE 71 #[.agg #[.string g.user,.string g.pass]] U fun e w'=>e=.returned (.tuple #[.string s,.nilIface])/\Fr aX U w':=by
 refine(EO g.user g.pass U hu hp).mono ?_;rintro e u⟨hb,hf⟩;refine⟨?_,hf⟩;unfold qj at h;rw[aB h1]at h;unfold mI at hb;by_cases hc:0<=Lib.indexByte g.user.data.toList 58
 ·rw[aB hc]at h;cases h
 ·rw[ay hc]at hb h;cases hq:(lg g.user&&lg g.pass)
  ·rw[hq]at h;cases h
  ·rw[hq]at hb h;cases h;exact hb
section
variable {g : aU bG} {o : jx} {s : ByteArray} {U : World} {dom : Value}
theorem Um(ec:dom.oneCell'=true)(hg:TS g)(hm:(jB o.method).size<=5000)(ht:(nw o.path o.query).size<=5000)(hb:o.body.size<=5000)(hc:o.bz.size<=5000)(hT:wE U) :
  aE 72 #[.agg #[.int .i64 g.a.scheme,.string g.a.aO,.string g.a.bC,.string g.a.cj,.bool g.a.cy,.string g.a.eZ,.bool g.a.dr,dom],.agg #[.string g.user,.string g.pass],.string (jB o.method),.string (nw o.path o.query),.string o.body,.string o.bz,.int .i64 g.count] U (oG g.a.scheme g.a.cj (o.XM g) g.count U):=by
 obtain⟨⟨a1,a2,a3,a4⟩,a5,a6⟩:=hg;exact P9 g.a.scheme g.a.aO g.a.bC g.a.cj g.a.eZ g.user g.pass (jB o.method) (nw o.path o.query) o.body o.bz g.a.cy g.a.dr dom g.count U ec ab ab ab a5 a6 hm ht hb hc hT.db (Uf _ _ hT.md hT.sh)
theorem Un(h1:¬g.a.scheme=1)(h:qj g o=none)(hd:oG g.a.scheme g.a.cj (o.XM g) g.count U e w'):(∃t v,e=.returned (.tuple #[.string ⟨#[]⟩,.iface t v]))/\Fr aX U w':=by
 unfold qj at h;rw[ay h1]at h;obtain⟨hf,hd⟩:=hd;refine⟨?_,hf⟩;rcases hd with ⟨_,hd⟩|⟨hg,_⟩
 ·exact hd
 ·split at h
  ·cases h
  ·rename_i hn;exact absurd hg hn
theorem Uo(h1:¬g.a.scheme=1)(h:qj g o=some s)(hd:oG g.a.scheme g.a.cj (o.XM g) g.count U e w'):e=.returned (.tuple #[.string s,.nilIface])/\Fr aX U w':=by
 unfold qj at h;rw[ay h1]at h;obtain⟨hf,hd⟩:=hd;refine⟨?_,hf⟩;rcases hd with ⟨hg,_⟩|⟨hg,hd⟩
 ·split at h
  ·rename_i hc;exact absurd hc hg
  ·cases h
 ·split at h
  ·cases h;exact hd
  ·rename_i hn;exact absurd hg hn
end
theorem Qf(s:ai)(h:s.size<=5000):(jB s).size<=5000:=by
 rcases yr iu s with ⟨h1,_⟩|h1
 ·have:=(show∀x∈iu,x.size<=5000 from ag) _ h1;exact this
 ·show(mZ iu s).size<=5000;rw[h1];exact h
theorem Qg(p q:ai)(h:p.size<=2000)(h2:q.size<=2000):(nw p q).size<=5000:=by
 unfold nw;split
 ·omega
 ·rw[iT,iT,show(ByteArray.mk #[63]).size=1 from rfl];omega
theorem MF(base:Nat)(w:World)(B off:Nat)(cs:a_)(v:dn)(p:eD)(o:jI)(hs:List gT)(h:eQ base w v p)(ha:gJ w B cs off v)(oX:base<=B)(hf:gM w o hs)(hk:mT p)(oO:rC p)(a:World)(sL:wE a)(qk:a.heap.size<=base)(sM:Fr aX a w) :
  aE 42 #[.pointer (some ⟨B,off,none⟩),.agg o.cells.toArray] w (eG base w B cs off v (lq p (o.dX hs))):=by
 have uo:B<w.heap.size:=bg ha.eK;have Fq:¬v.jS B:=h.fa ha.eK ag;obtain⟨ah,ch,gu⟩:=hf.h_;obtain⟨w2,eC⟩:∃w2,w2=(w.alloc (.cells o.cells.toArray 33)).alloc (.cells bP 46):=⟨_,rfl⟩;have dF:Fr aX w w2:=by rw[eC];exact((ae aX w).alloc _).alloc _
 have k1:w2.heap[w.heap.size]?=some (.cells o.cells.toArray 33 (0,0)):=by rw[eC];exact((ae aX _).alloc _).keep (aC _ _) id
 have k2:w2.heap[w.heap.size+1]?=some (.cells bP 46 (0,0)):=by
  have h:=aC (w.alloc (.cells o.cells.toArray 33)) (.cells bP 46);rw[bK]at h;rw[eC];exact h
 have wG:w2.heap.size=w.heap.size+2:=by rw[eC];simp
 have Up:=O (show∀U,Fr aX w2 U->U.heap[w.heap.size]?=some (.cells o.cells.toArray 33 (0,0))from fun U hU=>hU.keep k1 id);have BK:=O Fq;have HH:=O h;have HA:=O ha;have HF:=O hf;have lf:=O gu;have HK:=O hk;have fR:=O dF;have mD:=O k1;have qt:=O k2;have pS:=O (show base<=w.heap.size from ab);have wJ:=O oX;have oH:=O uo;have P8:=O eC
 obtain⟨a0,a1,a2,a3,a4,a5,a6,a7,a8,a9,jy,jz,a12,jw,jA,jb,jJ,jK,jL,jT,a20,a21⟩:=eo k1 gu;rw[eC]at a0 a1 a2 a3 a4 a5 a6 a7 a8 a9 jy jz a12 jw jA jb jJ jK jL jT a20 a21;rw[dN gu]at eC a0 a1 a2 a3 a4 a5 a6 a7 a8 a9 jy jz a12 jw jA jb jJ jK jL jT a20 a21 ⊢;unfold bP at eC a0 a1 a2 a3 a4 a5 a6 a7 a8 a9 jy jz a12 jw jA jb jJ jK jL jT a20 a21;have ow:=O eC;clear eC gu dF k1 k2 h ha hf Fq hk
 obtain⟨x3,wX⟩:∃x3,x3=w2.alloc (.cells #[.int .i64 o.aF.part,.bool o.aF.cG.aD,.string o.aF.cG.host,.int .i64 o.aF.cG.port,.bool o.aF.o.aD,.string o.aF.o.host,.int .i64 o.aF.o.port,.string o.aF.path,.string o.aF.query,.string o.aF.method,.slice ah hs.length ch,.bool o.aF.fq,.string o.aF.body] 29):=⟨_,rfl⟩;have Yo:Fr aX w2 x3:=by rw[wX];exact(ae _ _).alloc _
 have Xn:x3.heap[w.heap.size+2]?=some (.cells #[.int .i64 o.aF.part,.bool o.aF.cG.aD,.string o.aF.cG.host,.int .i64 o.aF.cG.port,.bool o.aF.o.aD,.string o.aF.o.host,.int .i64 o.aF.o.port,.string o.aF.path,.string o.aF.query,.string o.aF.method,.slice ah hs.length ch,.bool o.aF.fq,.string o.aF.body] 29 (0,0)):=by
  have h:=aC w2 (.cells #[.int .i64 o.aF.part,.bool o.aF.cG.aD,.string o.aF.cG.host,.int .i64 o.aF.cG.port,.bool o.aF.o.aD,.string o.aF.o.host,.int .i64 o.aF.o.port,.string o.aF.path,.string o.aF.query,.string o.aF.method,.slice ah hs.length ch,.bool o.aF.fq,.string o.aF.body] 29);rw[wG]at h;rw[wX];exact h
 have MG:x3.heap.size=w.heap.size+3:=by rw[wX];simp;omega
 have il:=O (fR.o.trans Yo);have HQ3:=O Xn;have HX3:=O wX;have H3:=O (HH.o.dx il.o);have A3:=O (HA.o.dx il.o);have KO:=O (Yo.keep mD.o id);have KR:=O (Yo.keep qt.o id);have Qh:=O (sM.trans il.o);have Qi:=O sL;have HSM:=O oO;have asS:=O MG;have Qj:=HK.o.re;clear wX Yo Xn sL oO sM;go_enter func42,ntmps42
 have HC:=O (show∀U,Fr (dk v.b v.gv v.wv) x3 U->(U.cell? ⟨B,off,none⟩=some (.pointer (some ⟨v.b,0,none⟩))/\U.cell? ⟨w.heap.size+2,4,none⟩=some (.bool o.aF.o.aD)/\U.cell? ⟨w.heap.size+2,5,none⟩=some (.string o.aF.o.host)/\U.cell? ⟨w.heap.size+2,6,none⟩=some (.int .i64 o.aF.o.port)/\U.cell? ⟨w.heap.size+2,7,none⟩=some (.string o.aF.path)/\U.cell? ⟨w.heap.size,14,none⟩=some (.bool o.proxy))from fun U hU=>by
  have j1:=A3.o.fr hU (fun hb=>BK.o (Or.inl hb));have j2:=hU.keep HQ3.o (fun hb=>H3.o.fa HQ3.o Fk (Or.inl hb));have j3:=hU.keep KO.o (fun hb=>H3.o.fa KO.o kX (Or.inl hb));obtain⟨a0,a1,a2,a3,a4,a5,a6,a7,a8,a9,jy,jz,a12,jw,jA,jb,jJ,jK,jL,jT,a20,a21⟩:=eo j3 lf.o;refine⟨j1.cell0,?_,?_,?_,?_,jA⟩<;>simp[World.cell?,j2])
 have HUS:=O (show∀U,Fr aX x3 U->aE 70 #[.pointer (some ⟨v.b,0,none⟩),.agg #[.bool o.aF.o.aD,.string o.aF.o.host,.int .i64 o.aF.o.port],.bool o.proxy,.string o.aF.path] U (qI base U v.b v.gv v.wv p.waits (uU p.bZ o.aF.o o.proxy o.aF.path))from fun U hU=>XA base U v.b v.gv v.wv p.bZ p.waits o.aF.o o.proxy o.aF.path (H3.o.dx hU).oT ab HK.o.nat)
 obtain⟨us,hus⟩:∃us,us=uU p.bZ o.aF.o o.proxy o.aF.path:=⟨_,rfl⟩;rw[<-hus]at HUS;have HUE:=O hus;obtain⟨ev,hev⟩:∃ev,ev=aha us.2:=⟨_,rfl⟩;have Yp:=O hev;have ahd:=O (show base<=x3.heap.size from aH pS.o il.o.size);have ahe:=O (show B<x3.heap.size from cN oH.o il.o.size);have rN:=ow.o;clear hus hev wG MG;go_wp2_with fail
 rw[<-rN, <-HX3.o];clear a0 a1 a2 a3 a4 a5 a6 a7 a8 a9 jy jz a12 jw jA jb jJ jK jL jT a20 a21 rN;apply T_ (P:=AtJ base x3 B off cs v {p with bZ:=us.1} us.2)
 ·intro hJ;have HJ:=O hJ;clear hJ
  refine wp_region_held_drew (S:=(fun U=>U.cell? ⟨B,off,none⟩=some (.pointer (some ⟨v.b,0,none⟩))/\U.cell? ⟨w.heap.size+2,4,none⟩=some (.bool o.aF.o.aD)/\U.cell? ⟨w.heap.size+2,5,none⟩=some (.string o.aF.o.host)/\U.cell? ⟨w.heap.size+2,6,none⟩=some (.int .i64 o.aF.o.port)/\U.cell? ⟨w.heap.size+2,7,none⟩=some (.string o.aF.path)/\U.cell? ⟨w.heap.size,14,none⟩=some (.bool o.proxy))) af (HC.o _ (aA (ae _ _))) ?_
  intro xg;refine aP 0 12 rfl ?_;refine aP 1 13 rfl ?_;refine aP 2 14 rfl ?_;refine aP 3 15 rfl ?_;refine aP 4 16 rfl ?_;refine aP 5 17 rfl ?_;refine aP 6 18 rfl ?_;refine aP 7 19 rfl ?_;refine aP 8 20 rfl ?_;refine aP 9 21 rfl ?_;refine aP 10 22 rfl ?_;refine aP 11 23 rfl ?_;refine Dl 12 16 rfl rfl (fun K hK=>?_) fun K hK=>?_
  ·go_simp;refine(HUS.o _ (aA (ae _ _))).mono ?_;rintro e u3 J7;obtain⟨sJ,X,rfl,Fs,J8,Da⟩:=qI.one J7;rw[<-Yp.o];have Rs:=O sJ;have HX:=O (And.intro Fs (And.intro J8 Da));have vQ:Fr (dk v.b v.gv v.wv) x3 u3:=(aA (ae _ _)).trans (by obtain⟨_,_,_,h,_⟩:=sJ;exact h);have Ah:=O vQ;clear J7 sJ Fs J8 Da vQ;refine hK.out _ _ (HC.o _ Ah.o) ?_;intro wM;clear hK xg K
   try simp only[Act.put,sA,sB,sC]
   refine aP 13 11 rfl ?_;refine aP 14 25 rfl ?_;refine aP 15 26 rfl ?_;refine eE 16 rfl fun K hK=>?_;go_simp;obtain⟨n,hne⟩:∃n,n=u3.heap.size:=⟨_,rfl⟩;obtain⟨w4,qf⟩:∃w4,w4=u3.alloc (.cells fc 133):=⟨_,rfl⟩;have Uq:w4.heap[n]?=some (.cells fc 133 (0,0)):=by rw[qf,hne];exact aC _ _
   have kH:Fr (dk v.b v.gv v.wv) x3 w4:=by rw[qf];exact Ah.o.alloc _
   have Yq:=O Uq;have jN:=O kH;have Ms:=O qf;have Br:=O hne;rw[<-qf, <-hne];clear qf hne Uq kH;refine hK.out _ _ (HC.o _ jN.o) ?_;intro yb;clear hK wM K
   try simp only[Act.put,sA,sB,sC]
   refine eE 17 rfl fun K hK=>?_;refine gP rfl 133 (.tmp 6) (.tmp 25) rfl n X rfl rfl 133 fc Yq.o (Dk HX.o.1) HX.o.1.symm HX.o.2.1 ?_;obtain⟨W,hW⟩:∃W,W=w4.setRow n X:=⟨_,rfl⟩;have AV:Fr (dk v.b v.gv v.wv) x3 W:=by rw[hW];exact jG jN.o (by rw[Br.o];exact Ah.o.size) _
   have hP:=sq.after (z:=fc) (cV (aA (ae aX x3)) (eR (H3.o.dx (aA (ae aX x3))) (A3.o.dx (aA (ae aX x3))) BK.o Rs.o)) ahd.o ahe.o (t:=133) ag X;rw[<-Ms.o, <-Br.o, <-hW]at hP;rw[<-hW];refine hK.out _ _ (HC.o _ AV) ?_;intro Ea;clear hK yb K
   try simp only[Act.put,sA,sB,sC]
   refine aP 18 7 rfl ?_;clear Ea;refine wpAnyH_done af ?_ _;exact HJ.o n X W ⟨hP.1,fun g hg=>by
    obtain⟨r,e1,e2⟩:=HX.o.2.2 g hg;exact⟨r,e1,e2.mono (fun v l h=>hP.2 v l h)⟩⟩
  ·go_simp;obtain⟨n,hne⟩:∃n,n=x3.heap.size:=⟨_,rfl⟩;obtain⟨w4,qf⟩:∃w4,w4=(x3.alloc (.cells fc 133)).drew:=⟨_,rfl⟩;have Uq:w4.heap[n]?=some (.cells fc 133 (0,0)):=by rw[qf,hne];exact aC x3 _
   have kH:Fr aX x3 w4:=by rw[qf];exact((ae _ _).alloc _).drew
   have Yq:=O Uq;have jN:=O kH;have Br:=O (show x3.heap.size<=n from ab);rw[<-qf, <-hne];clear qf hne Uq kH;refine hK.out _ _ (HC.o _ (jN.o.mono (fun _ _ h=>absurd h id))) ?_;intro wM;clear hK xg K
   try simp only[Act.put,sA,sB,sC]
   refine eE 12 rfl fun K hK=>?_;go_simp;refine(HUS.o _ jN.o).mono ?_;rintro e u3 J7;obtain⟨sJ,X,rfl,Fs,J8,Da⟩:=qI.one J7;rw[<-Yp.o];have Rs:=O sJ;have HX:=O (And.intro Fs (And.intro J8 Da));have vQ:Fr (dk v.b v.gv v.wv) x3 u3:=(jN.o.mono (fun _ _ h=>absurd h id)).trans (by obtain⟨_,_,_,h,_⟩:=sJ;exact h)
   have Sf:u3.heap[n]?=some (.cells fc 133 (0,0)):=(show Fr (dk v.b v.gv v.wv) w4 u3 by obtain⟨_,_,_,h,_⟩:=sJ;exact h).keep Yq.o (fun hb=>by have:=H3.o.je (Or.inl hb);have:=Br.o;omega);have Ah:=O vQ;have HZ3:=O Sf;clear J7 sJ Fs J8 Da vQ Sf;refine hK.out _ _ (HC.o _ Ah.o) ?_;intro yb;clear hK wM K
   try simp only[Act.put,sA,sB,sC]
   refine aP 13 11 rfl ?_;refine aP 14 25 rfl ?_;refine aP 15 26 rfl ?_;refine eE 17 rfl fun K hK=>?_;refine gP rfl 133 (.tmp 6) (.tmp 25) rfl n X rfl rfl 133 fc HZ3.o (Dk HX.o.1) HX.o.1.symm HX.o.2.1 ?_;obtain⟨W,hW⟩:∃W,W=u3.setRow n X:=⟨_,rfl⟩;have AV:Fr (dk v.b v.gv v.wv) x3 W:=by rw[hW];exact jG Ah.o Br.o _
   have hP:=sq.before H3.o jN.o Br.o Yq.o (eR (H3.o.dx jN.o) (A3.o.dx jN.o) BK.o Rs.o) ahd.o ahe.o ag X;rw[<-hW]at hP;rw[<-hW];refine hK.out _ _ (HC.o _ AV) ?_;intro Ea;clear hK yb K
   try simp only[Act.put,sA,sB,sC]
   refine aP 18 7 rfl ?_;clear Ea;refine wpAnyH_done af ?_ _;exact HJ.o n X W ⟨hP.1,fun g hg=>by
    obtain⟨r,e1,e2⟩:=HX.o.2.2 g hg;exact⟨r,e1,e2.mono (fun v l h=>hP.2 v l h)⟩⟩
 ·intro n X W hj;obtain⟨⟨v1,i1,f1,AU,Ur,hX,Us,T'⟩,J6⟩:=hj;have aa1:=ia A3.o Ur;have o1:=eI H3.o f1 KO.o kX ab;have r1:=eI H3.o f1 KR.o dS ab;have q1:=eI H3.o f1 HQ3.o Fk ab;have haW:Fr aX a W:=Qh.o.step f1 (fun k hk hp=>by
   rcases hp with rfl|hp
   ·omega
   ·have:=H3.o.np hp;omega)
  have HTW:=O (Qi.o.fr haW);have I1:=O i1;have F1:=O f1;have Z':=O AU;have J9:=O aa1;have O1:=O o1;have R1:=O r1;have Q1:=O q1;have HXB:=O hX;have HNF:=O Us;have HNA:=O T';clear i1 f1 AU aa1 o1 r1 q1 Ur hX Us T' HUS HC haW;cases EY:us.2 with
  |error k =>
   have hef:ev=.iface 82 (.int .i64 k):=by rw[Yp.o,EY];rfl
   have HR:=O (show lq p (o.dX hs)=({p with bZ:=us.1},rep 2)by
    unfold lq;rw[show uU p.bZ (o.dX hs).o (o.dX hs).proxy (o.dX hs).path=(us.1,.error k)from by rw[<-EY];exact HUE.o.symm])
   have HP:=O (show cW base w B cs off v {p with bZ:=us.1} W from cV il.o ⟨v1,I1.o,F1.o,Z'.o,J9.o.eK⟩);rw[hef];clear J6 EY Yp HUE hef;go_wp2_with (first|((with_reducible refine cU 46 ?_);refine aI rfl 46 (.tmp 4) (.tmp 29) rfl (w.heap.size+1) #[.int .i64 2,.string ⟨#[]⟩,.int .i64 0] rfl rfl _ bP R1.o (ba _ rfl) rfl bS ?_)|fail)
   refine aR (bj bB _ _ (w.heap.size+1) 46 #[.int .i64 2,.string ⟨#[]⟩,.int .i64 0] (0,0) _ rfl (aY _ (w.heap.size+1) _ _ _ _ R1.o) underlying46 rfl (ba _ rfl)) rfl ?_;unfold eG;rw[HR.o];exact⟨rfl,dv HP.o pS.o oH.o (bT _) R1.o eN ag _⟩
  |ok g =>
   have hef:ev=.nilIface:=by rw[Yp.o,EY];rfl
   obtain⟨r,V1,hr⟩:=J6 g EY;have hgs:TS g:=(JV (P:=TS) (fun g h=>h) HSM.o.bZ).2 g (by rw[<-HUE.o];exact EY);have Ut:=O (show lq p (o.dX hs)=(match qj g (o.dX hs)with|none=>({p with bZ:=uD us.1 g.o g.proxy g.a.aO},rep 2)|some s=>({p with bZ:=us.1},⟨1,s,0⟩))by
    unfold lq;rw[show uU p.bZ (o.dX hs).o (o.dX hs).proxy (o.dX hs).path=(us.1,.ok g)from by rw[<-EY];exact HUE.o.symm];rfl)
   obtain⟨q1,q2,q3,q4,q5,q6,q7⟩:=hr;obtain⟨e1,e2,e3,e4,e5,e6,e7,zY⟩:=q5;obtain⟨ad,cd,BF⟩:=zY.rd.form;obtain⟨ap,cp,Lv⟩:=q7.rd.form
   have wU:X= #[.bool g.o.aD,.string g.o.host,.int .i64 g.o.port,.bool g.proxy,.string g.user,.string g.pass,.int .i64 g.a.scheme,.string g.a.aO,.string g.a.bC,.string g.a.cj,.bool g.a.cy,.string g.a.eZ,.bool g.a.dr,.slice ad g.a.dom.length cd,.int .i64 g.count,.slice ap g.paths.length cp]:=by
    rw[V1];unfold aU.cells;rw[q1,q2,q3,q4,q6,e1,e2,e3,e4,e5,e6,e7,BF,Lv]
   rw[wU]at HXB;have Qk:=HXB.o;have hqn:=Q1.o;have hon:=O1.o;have HGS:=O hgs;have ZU:=O hgs.2.1;have ZP:=O hgs.2.2;have Rp:=HF.o;rw[hef];clear J6 EY Yp HUE hef q1 q2 q3 q4 q6 q7 e1 e2 e3 e4 e5 e6 e7 zY BF Lv wU V1 hgs;have z4:W.cell? ⟨n,4,none⟩=some (.string g.user):=by simp[World.cell?,Qk]
   have z5:W.cell? ⟨n,5,none⟩=some (.string g.pass):=by simp[World.cell?,Qk]
   have z6:W.cell? ⟨n,6,none⟩=some (.int .i64 g.a.scheme):=by simp[World.cell?,Qk]
   by_cases hsc:g.a.scheme=1
   ·have t6':(g.a.scheme==1)=true:=by rw[hsc];rfl
    cases ya:qj g (o.dX hs)with
    |none =>
     have HR:=O (show lq p (o.dX hs)=({p with bZ:=uD us.1 g.o g.proxy g.a.aO},rep 2)by rw[Ut.o,ya]);have HBA:=O (show∀U,aE 71 #[.agg #[.string g.user,.string g.pass]] U _ from fun U=>MD hsc ya (aH ZU.o ag) (aH ZP.o ag));have V7:=O hsc;rw[hsc]at z6;clear ya Ut hsc Qk hqn hon Rp;go_wp2_with fail
     refine(HBA.o _).mono ?_;rintro e u5⟨⟨et,evv,rfl⟩,lB⟩;have HU:=O (lB)
     have Sq:=O (show∀U,Fr (dk v1.b v1.gv v1.wv) u5 U->(U.cell? ⟨B,off,none⟩=some (.pointer (some ⟨v1.b,0,none⟩))/\U.cell? ⟨n,0,none⟩=some (.bool g.o.aD)/\U.cell? ⟨n,1,none⟩=some (.string g.o.host)/\U.cell? ⟨n,2,none⟩=some (.int .i64 g.o.port)/\U.cell? ⟨n,3,none⟩=some (.bool g.proxy)/\U.cell? ⟨n,7,none⟩=some (.string g.a.aO))from fun U hU=>by
      have j1:=(J9.o.dx HU.o).fr hU (fun hb=>I1.o.fa J9.o.eK ag (Or.inl hb));have j2:=hU.keep (HU.o.keep HXB.o id) (fun hb=>HNF.o (Or.inl hb));refine⟨j1.cell0,?_,?_,?_,?_,?_⟩<;>simp[World.cell?,j2])
     have Rh:=O (show∀U,Fr aX u5 U->aE 75 #[.pointer (some ⟨v1.b,0,none⟩),.agg #[.bool g.o.aD,.string g.o.host,.int .i64 g.o.port],.bool g.proxy,.string g.a.aO] U (vK base U v1.b v1.gv v1.wv us.1 p.waits (mM g.o g.proxy g.a.aO))from fun U hU=>yT base U v1.b v1.gv v1.wv us.1 p.waits g.o g.proxy g.a.aO ((I1.o.dx HU.o).dx hU).oT);go_wp2_with fail
     go_region_held3 (fun U=>Fr (dk v1.b v1.gv v1.wv) u5 U/\U.cell? ⟨B,off,none⟩=some (.pointer (some ⟨v1.b,0,none⟩))/\U.cell? ⟨n,0,none⟩=some (.bool g.o.aD)/\U.cell? ⟨n,1,none⟩=some (.string g.o.host)/\U.cell? ⟨n,2,none⟩=some (.int .i64 g.o.port)/\U.cell? ⟨n,3,none⟩=some (.bool g.proxy)/\U.cell? ⟨n,7,none⟩=some (.string g.a.aO)) ((refine(fun hU=>⟨hU,Sq.o _ hU⟩) ?_;first|exact aA (ae _ _)|assumption))
      ((first
       |(go_at_call 75;refine(Rh.o _ (aA (ae _ _))).mono ?_;rintro e u9 ⟨rfl,MH⟩;have Uu:Fr (dk v1.b v1.gv v1.wv) u5 u9:=(aA (ae _ _)).trans (by obtain⟨_,_,_,h,_⟩:=MH;exact h))))
     have Uv:=eR ((I1.o.dx HU.o).dx (aA (ae aX u5))) ((J9.o.dx HU.o).dx (aA (ae aX u5))) (I1.o.fa J9.o.eK ag) MH;have HP:=O (show cW base w B cs off v {p with bZ:=uD us.1 g.o g.proxy g.a.aO} u9 from cV il.o (gB F1.o Z'.o (cV HU.o (cV (aA (ae aX u5)) Uv))));have r9:=O (eI (B:=B) (I1.o.dx HU.o) (Uu.mono (fun k _ hk=>Or.inr (Or.inl hk))) (HU.o.keep R1.o id) dS ab);clear Uv MH Uu Sq Rh
     go_wp2_with (first|((with_reducible refine cU 46 ?_);refine aI rfl 46 (.tmp 4) (.tmp 74) rfl (w.heap.size+1) #[.int .i64 2,.string ⟨#[]⟩,.int .i64 0] rfl rfl _ bP r9.o (ba _ rfl) rfl bS ?_)|fail)
     refine aR (bj bB _ _ (w.heap.size+1) 46 #[.int .i64 2,.string ⟨#[]⟩,.int .i64 0] (0,0) _ rfl (aY _ (w.heap.size+1) _ _ _ _ r9.o) underlying46 rfl (ba _ rfl)) rfl ?_;unfold eG;rw[HR.o];exact⟨rfl,dv HP.o pS.o oH.o (bT _) r9.o eN ag _⟩
    |some s =>
     have HR:=O (show lq p (o.dX hs)=({p with bZ:=us.1},⟨1,s,0⟩)by rw[Ut.o,ya]);have HBA:=O (show∀U,aE 71 #[.agg #[.string g.user,.string g.pass]] U _ from fun U=>ME hsc ya (aH ZU.o ag) (aH ZP.o ag));have V7:=O hsc;rw[hsc]at z6;clear ya Ut hsc Qk hqn hon Rp;go_wp2_with fail
     refine(HBA.o _).mono ?_;rintro e u5⟨rfl,lB⟩;have HU:=O (lB);have HP:=O (show cW base w B cs off v {p with bZ:=us.1} u5 from cV il.o (cW.then ⟨v1,I1.o,F1.o,Z'.o,J9.o.eK⟩ HU.o));have r9:=O (HU.o.keep R1.o id);go_wp2_with (first|((with_reducible refine cU 46 ?_);refine aI rfl 46 (.tmp 4) (.tmp 76) rfl (w.heap.size+1) #[.int .i64 1,.string s,.int .i64 0] rfl rfl _ bP r9.o (ba _ rfl) rfl bS ?_)|fail)
     refine aR (bj bB _ _ (w.heap.size+1) 46 #[.int .i64 1,.string s,.int .i64 0] (0,0) _ rfl (aY _ (w.heap.size+1) _ _ _ _ r9.o) underlying46 rfl (ba _ rfl)) rfl ?_;unfold eG;rw[HR.o];exact⟨rfl,dv HP.o pS.o oH.o (bT _) r9.o eN ag _⟩
   ·have t6':(g.a.scheme==1)=false:=aL.2 hsc
    have HC8:=O (show∀U,Fr aX W U->(U.cell? ⟨n,4,none⟩=some (.string g.user)/\U.cell? ⟨n,5,none⟩=some (.string g.pass)/\U.cell? ⟨n,6,none⟩=some (.int .i64 g.a.scheme)/\U.cell? ⟨n,7,none⟩=some (.string g.a.aO)/\U.cell? ⟨n,8,none⟩=some (.string g.a.bC)/\U.cell? ⟨n,9,none⟩=some (.string g.a.cj)/\U.cell? ⟨n,10,none⟩=some (.bool g.a.cy)/\U.cell? ⟨n,11,none⟩=some (.string g.a.eZ)/\U.cell? ⟨n,12,none⟩=some (.bool g.a.dr)/\U.cell? ⟨n,13,none⟩=some (.slice ad g.a.dom.length cd)/\U.cell? ⟨n,14,none⟩=some (.int .i64 g.count)/\U.cell? ⟨w.heap.size+2,4,none⟩=some (.bool o.aF.o.aD)/\U.cell? ⟨w.heap.size+2,5,none⟩=some (.string o.aF.o.host)/\U.cell? ⟨w.heap.size+2,6,none⟩=some (.int .i64 o.aF.o.port)/\U.cell? ⟨w.heap.size+2,7,none⟩=some (.string o.aF.path)/\U.cell? ⟨w.heap.size+2,8,none⟩=some (.string o.aF.query)/\U.cell? ⟨w.heap.size+2,9,none⟩=some (.string o.aF.method)/\U.cell? ⟨w.heap.size+2,12,none⟩=some (.string o.aF.body)/\U.cell? ⟨w.heap.size,18,none⟩=some (.string o.bz))from fun U hU=>by
     have j2:=hU.keep HXB.o id;have j3:=hU.keep Q1.o id;obtain⟨a0,a1,a2,a3,a4,a5,a6,a7,a8,a9,jy,jz,a12,jw,jA,jb,jJ,jK,jL,jT,a20,a21⟩:=eo (hU.keep O1.o id) lf.o;refine⟨?_,?_,?_,?_,?_,?_,?_,?_,?_,?_,?_,?_,?_,?_,?_,?_,?_,?_,jL⟩<;>simp[World.cell?,j2,j3])
    have HME:=O (show∀U,aE 73 #[.string o.aF.method] U _ from fun U=>xu o.aF.method U (gA HF.o.method ag));have HTG:=O (show∀U,aE 74 #[.agg #[.bool o.aF.o.aD,.string o.aF.o.host,.int .i64 o.aF.o.port,.string o.aF.path,.string o.aF.query]] U _ from fun U=>LQ o.aF.o o.aF.path o.aF.query U (gA HF.o.path ag) (gA HF.o.query ag))
    have zC:=O (show∀U,Fr aX W U->aE 72 #[.agg #[.int .i64 g.a.scheme,.string g.a.aO,.string g.a.bC,.string g.a.cj,.bool g.a.cy,.string g.a.eZ,.bool g.a.dr,.slice ad g.a.dom.length cd],.agg #[.string g.user,.string g.pass],.string (jB o.aF.method),.string (nw o.aF.path o.aF.query),.string o.aF.body,.string o.bz,.int .i64 g.count] U (oG g.a.scheme g.a.cj ((o.dX hs).XM g) g.count U)from fun U hU=>Um (o:=o.dX hs) rfl HGS.o (Qf _ HF.o.method) (Qg _ _ HF.o.path HF.o.query) HF.o.body HF.o.bz (HTW.o.fr hU))
    cases ya:qj g (o.dX hs)with
    |none =>
     have HR:=O (show lq p (o.dX hs)=({p with bZ:=uD us.1 g.o g.proxy g.a.aO},rep 2)by rw[Ut.o,ya]);have Hk:=O ya;have V7:=O hsc;clear ya Ut Qk hqn hon Rp hsc;go_wp2_with fail
     go_region_held3 (fun U=>Fr aX W U/\U.cell? ⟨n,4,none⟩=some (.string g.user)/\U.cell? ⟨n,5,none⟩=some (.string g.pass)/\U.cell? ⟨n,6,none⟩=some (.int .i64 g.a.scheme)/\U.cell? ⟨n,7,none⟩=some (.string g.a.aO)/\U.cell? ⟨n,8,none⟩=some (.string g.a.bC)/\U.cell? ⟨n,9,none⟩=some (.string g.a.cj)/\U.cell? ⟨n,10,none⟩=some (.bool g.a.cy)/\U.cell? ⟨n,11,none⟩=some (.string g.a.eZ)/\U.cell? ⟨n,12,none⟩=some (.bool g.a.dr)/\U.cell? ⟨n,13,none⟩=some (.slice ad g.a.dom.length cd)/\U.cell? ⟨n,14,none⟩=some (.int .i64 g.count)/\U.cell? ⟨w.heap.size+2,4,none⟩=some (.bool o.aF.o.aD)/\U.cell? ⟨w.heap.size+2,5,none⟩=some (.string o.aF.o.host)/\U.cell? ⟨w.heap.size+2,6,none⟩=some (.int .i64 o.aF.o.port)/\U.cell? ⟨w.heap.size+2,7,none⟩=some (.string o.aF.path)/\U.cell? ⟨w.heap.size+2,8,none⟩=some (.string o.aF.query)/\U.cell? ⟨w.heap.size+2,9,none⟩=some (.string o.aF.method)/\U.cell? ⟨w.heap.size+2,12,none⟩=some (.string o.aF.body)/\U.cell? ⟨w.heap.size,18,none⟩=some (.string o.bz)) ((refine(fun hU=>⟨hU,HC8.o _ hU⟩) ?_;first|exact aA (ae _ _)|assumption))
      ((first
       |(go_at_call 73;refine(HME.o _).mono ?_;rintro e u5 ⟨rfl,lB⟩;have tG:Fr aX W u5:=(by first|exact Uw.trans lB|exact(aA (ae aX W)).trans lB))
       |(go_at_call 74;refine(HTG.o _).mono ?_;rintro e u6 ⟨rfl,nt⟩;have Uw:Fr aX W u6:=(by first|exact tG.trans nt|exact(aA (ae aX W)).trans nt))
       |(go_at_call 72;refine(zC.o _ jR).mono ?_;rintro e u7 O5;obtain⟨⟨et,evv,rfl⟩,nY⟩:=Un V7.o Hk.o O5;have J_:Fr aX W u7:=(by first|exact Uw.trans nY|exact tG.trans nY))))
     all_goals as_aux_lemma =>
      have HU:=O (J_);have Sq:=O (show∀U,Fr (dk v1.b v1.gv v1.wv) u7 U->(U.cell? ⟨B,off,none⟩=some (.pointer (some ⟨v1.b,0,none⟩))/\U.cell? ⟨n,0,none⟩=some (.bool g.o.aD)/\U.cell? ⟨n,1,none⟩=some (.string g.o.host)/\U.cell? ⟨n,2,none⟩=some (.int .i64 g.o.port)/\U.cell? ⟨n,3,none⟩=some (.bool g.proxy)/\U.cell? ⟨n,7,none⟩=some (.string g.a.aO))from fun U hU=>by
       have j1:=(J9.o.dx HU.o).fr hU (fun hb=>I1.o.fa J9.o.eK ag (Or.inl hb));have j2:=hU.keep (HU.o.keep HXB.o id) (fun hb=>HNF.o (Or.inl hb));refine⟨j1.cell0,?_,?_,?_,?_,?_⟩<;>simp[World.cell?,j2])
      have Rh:=O (show∀U,Fr aX u7 U->aE 75 #[.pointer (some ⟨v1.b,0,none⟩),.agg #[.bool g.o.aD,.string g.o.host,.int .i64 g.o.port],.bool g.proxy,.string g.a.aO] U (vK base U v1.b v1.gv v1.wv us.1 p.waits (mM g.o g.proxy g.a.aO))from fun U hU=>yT base U v1.b v1.gv v1.wv us.1 p.waits g.o g.proxy g.a.aO ((I1.o.dx HU.o).dx hU).oT);go_wp2_with fail
      go_region_held3 (fun U=>Fr (dk v1.b v1.gv v1.wv) u7 U/\U.cell? ⟨B,off,none⟩=some (.pointer (some ⟨v1.b,0,none⟩))/\U.cell? ⟨n,0,none⟩=some (.bool g.o.aD)/\U.cell? ⟨n,1,none⟩=some (.string g.o.host)/\U.cell? ⟨n,2,none⟩=some (.int .i64 g.o.port)/\U.cell? ⟨n,3,none⟩=some (.bool g.proxy)/\U.cell? ⟨n,7,none⟩=some (.string g.a.aO)) ((refine(fun hU=>⟨hU,Sq.o _ hU⟩) ?_;first|exact aA (ae _ _)|assumption))
       ((first
        |(go_at_call 75;refine(Rh.o _ (aA (ae _ _))).mono ?_;rintro e u9 ⟨rfl,MH⟩;have Uu:Fr (dk v1.b v1.gv v1.wv) u7 u9:=(aA (ae _ _)).trans (by obtain⟨_,_,_,h,_⟩:=MH;exact h))))
      have Uv:=eR ((I1.o.dx HU.o).dx (aA (ae aX u7))) ((J9.o.dx HU.o).dx (aA (ae aX u7))) (I1.o.fa J9.o.eK ag) MH;have HP:=O (show cW base w B cs off v {p with bZ:=uD us.1 g.o g.proxy g.a.aO} u9 from cV il.o (gB F1.o Z'.o (cV HU.o (cV (aA (ae aX u7)) Uv))));have r9:=O (eI (B:=B) (I1.o.dx HU.o) (Uu.mono (fun k _ hk=>Or.inr (Or.inl hk))) (HU.o.keep R1.o id) dS ab);clear Uv MH Uu Sq Rh
      go_wp2_with (first|((with_reducible refine cU 46 ?_);refine aI rfl 46 (.tmp 4) (.tmp 74) rfl (w.heap.size+1) #[.int .i64 2,.string ⟨#[]⟩,.int .i64 0] rfl rfl _ bP r9.o (ba _ rfl) rfl bS ?_)|fail)
      refine aR (bj bB _ _ (w.heap.size+1) 46 #[.int .i64 2,.string ⟨#[]⟩,.int .i64 0] (0,0) _ rfl (aY _ (w.heap.size+1) _ _ _ _ r9.o) underlying46 rfl (ba _ rfl)) rfl ?_;unfold eG;rw[HR.o];exact⟨rfl,dv HP.o pS.o oH.o (bT _) r9.o eN ag _⟩
    |some s =>
     have HR:=O (show lq p (o.dX hs)=({p with bZ:=us.1},⟨1,s,0⟩)by rw[Ut.o,ya]);have Hk:=O ya;have V7:=O hsc;clear ya Ut Qk hqn hon Rp hsc;go_wp2_with fail
     go_region_held3 (fun U=>Fr aX W U/\U.cell? ⟨n,4,none⟩=some (.string g.user)/\U.cell? ⟨n,5,none⟩=some (.string g.pass)/\U.cell? ⟨n,6,none⟩=some (.int .i64 g.a.scheme)/\U.cell? ⟨n,7,none⟩=some (.string g.a.aO)/\U.cell? ⟨n,8,none⟩=some (.string g.a.bC)/\U.cell? ⟨n,9,none⟩=some (.string g.a.cj)/\U.cell? ⟨n,10,none⟩=some (.bool g.a.cy)/\U.cell? ⟨n,11,none⟩=some (.string g.a.eZ)/\U.cell? ⟨n,12,none⟩=some (.bool g.a.dr)/\U.cell? ⟨n,13,none⟩=some (.slice ad g.a.dom.length cd)/\U.cell? ⟨n,14,none⟩=some (.int .i64 g.count)/\U.cell? ⟨w.heap.size+2,4,none⟩=some (.bool o.aF.o.aD)/\U.cell? ⟨w.heap.size+2,5,none⟩=some (.string o.aF.o.host)/\U.cell? ⟨w.heap.size+2,6,none⟩=some (.int .i64 o.aF.o.port)/\U.cell? ⟨w.heap.size+2,7,none⟩=some (.string o.aF.path)/\U.cell? ⟨w.heap.size+2,8,none⟩=some (.string o.aF.query)/\U.cell? ⟨w.heap.size+2,9,none⟩=some (.string o.aF.method)/\U.cell? ⟨w.heap.size+2,12,none⟩=some (.string o.aF.body)/\U.cell? ⟨w.heap.size,18,none⟩=some (.string o.bz)) ((refine(fun hU=>⟨hU,HC8.o _ hU⟩) ?_;first|exact aA (ae _ _)|assumption))
      ((first
       |(go_at_call 73;refine(HME.o _).mono ?_;rintro e u5 ⟨rfl,lB⟩;have tG:Fr aX W u5:=(by first|exact Uw.trans lB|exact(aA (ae aX W)).trans lB))
       |(go_at_call 74;refine(HTG.o _).mono ?_;rintro e u6 ⟨rfl,nt⟩;have Uw:Fr aX W u6:=(by first|exact tG.trans nt|exact(aA (ae aX W)).trans nt))
       |(go_at_call 72;refine(zC.o _ jR).mono ?_;rintro e u7 O5;obtain⟨rfl,nY⟩:=Uo V7.o Hk.o O5;have J_:Fr aX W u7:=(by first|exact Uw.trans nY|exact tG.trans nY))))
     all_goals as_aux_lemma =>
      have HU:=O (J_);have HP:=O (show cW base w B cs off v {p with bZ:=us.1} u7 from cV il.o (cW.then ⟨v1,I1.o,F1.o,Z'.o,J9.o.eK⟩ HU.o));have r9:=O (HU.o.keep R1.o id);go_wp2_with (first|((with_reducible refine cU 46 ?_);refine aI rfl 46 (.tmp 4) (.tmp 76) rfl (w.heap.size+1) #[.int .i64 1,.string s,.int .i64 0] rfl rfl _ bP r9.o (ba _ rfl) rfl bS ?_)|fail)
      refine aR (bj bB _ _ (w.heap.size+1) 46 #[.int .i64 1,.string s,.int .i64 0] (0,0) _ rfl (aY _ (w.heap.size+1) _ _ _ _ r9.o) underlying46 rfl (ba _ rfl)) rfl ?_;unfold eG;rw[HR.o];exact⟨rfl,dv HP.o pS.o oH.o (bT _) r9.o eN ag _⟩
